/- Walks printed by gen2.py out of our own specifications: what the functions named below do. -/
import Derived.Test.YtdckemiebnfjcaaGreatDoorSc
import Derived.Test.YtdckemiebnfjcaaGreatDoorQf
import Derived.Test.YtdckemiebnfjcaaGreatDoorLawD
set_option linter.unusedSimpArgs false
set_option linter.unusedVariables false
set_option maxRecDepth 20000
namespace Go.Proofs.YtdckemiebnfjcaaGreatDoor
open Go.RowKit
open Go.ChangeShapes Go.WideShapes Go.ChangeAt Go.RowKit Go.Joins
def wf3 (q : Int) : Prop := -9223372036854775808 ≤ q ∧ q ≤ 9223372036854775807
theorem op3 {H : Type} {enc : TypeId × Value → H} {W : World} {fuel : Nat} {cs : List Value} {x : DataW H × List MemPlace} (h : DataW.trod enc Tryz.prog W 0 (fun _ => true) true fuel 3 cs = some x) : ∃ m : Int, cs = [.int .i64 m] ∧ wf3 m := by
  obtain ⟨q, e, _, w0⟩ := DataW.trod_int Tryz.underlying3 h
  have := bounds_i64 w0
  exact ⟨q, e, by unfold wf3; omega⟩
def wf2 (q : Int) : Prop := -9223372036854775808 ≤ q ∧ q ≤ 9223372036854775807
theorem op2 {H : Type} {enc : TypeId × Value → H} {W : World} {fuel : Nat} {cs : List Value} {x : DataW H × List MemPlace} (h : DataW.trod enc Tryz.prog W 0 (fun _ => true) true fuel 2 cs = some x) : ∃ m : Int, cs = [.int .i64 m] ∧ wf2 m := by
  obtain ⟨q, e, _, w0⟩ := DataW.trod_int Tryz.underlying2 h
  have := bounds_i64 w0
  exact ⟨q, e, by unfold wf2; omega⟩
def wf22 (q : Int) : Prop := 0 ≤ q ∧ q ≤ 4294967295
theorem op22 {H : Type} {enc : TypeId × Value → H} {W : World} {fuel : Nat} {cs : List Value} {x : DataW H × List MemPlace} (h : DataW.trod enc Tryz.prog W 0 (fun _ => true) true fuel 22 cs = some x) : ∃ m : Int, cs = [.int .u32 m] ∧ wf22 m := by
  obtain ⟨q, e, _, w0⟩ := DataW.trod_int Tryz.underlying22 h
  have := bounds_u32 w0
  exact ⟨q, e, by unfold wf22; omega⟩
def wf24 (q : StampM) : Prop := wf22 q.time ∧ wf3 q.origin
theorem op24 {H : Type} {enc : TypeId × Value → H} {W : World} {fuel : Nat} {cs : List Value} {x : DataW H × List MemPlace} (h : DataW.trod enc Tryz.prog W 0 (fun _ => true) true fuel 24 cs = some x) : ∃ m : StampM, cs = stampMC m ∧ wf24 m := by
  have hl := trod_len Tryz.underlying24 (m := 2) (by kernel_rfl) h
  obtain ⟨c0, c1, rfl⟩ : ∃ c0 c1, cs = [c0, c1] := by
    match cs, hl with
    | [c0, c1], _ => exact ⟨c0, c1, rfl⟩
  obtain ⟨n0, y0, h0⟩ := trod_fld Tryz.underlying24 h 0 rfl (m := 1) (by kernel_rfl)
  obtain ⟨m0, e0, wm0⟩ := op22 h0
  have e0 : [c0] = [.int .u32 m0] := e0
  simp only [List.cons.injEq, and_true] at e0
  obtain rfl := e0
  obtain ⟨n1, y1, h1⟩ := trod_fld Tryz.underlying24 h 1 rfl (m := 1) (by kernel_rfl)
  obtain ⟨m1, e1, wm1⟩ := op3 h1
  have e1 : [c1] = [.int .i64 m1] := e1
  simp only [List.cons.injEq, and_true] at e1
  obtain rfl := e1
  exact ⟨⟨m0, m1⟩, rfl, wm0, wm1⟩
def wf26 (q : RegM) : Prop := wf2 q.val ∧ wf24 q.atF
theorem op26 {H : Type} {enc : TypeId × Value → H} {W : World} {fuel : Nat} {cs : List Value} {x : DataW H × List MemPlace} (h : DataW.trod enc Tryz.prog W 0 (fun _ => true) true fuel 26 cs = some x) : ∃ m : RegM, cs = regMC m ∧ wf26 m := by
  have hl := trod_len Tryz.underlying26 (m := 3) (by kernel_rfl) h
  obtain ⟨c0, c1, c2, rfl⟩ : ∃ c0 c1 c2, cs = [c0, c1, c2] := by
    match cs, hl with
    | [c0, c1, c2], _ => exact ⟨c0, c1, c2, rfl⟩
  obtain ⟨n0, y0, h0⟩ := trod_fld Tryz.underlying26 h 0 rfl (m := 1) (by kernel_rfl)
  obtain ⟨m0, e0, wm0⟩ := op2 h0
  have e0 : [c0] = [.int .i64 m0] := e0
  simp only [List.cons.injEq, and_true] at e0
  obtain rfl := e0
  obtain ⟨n1, y1, h1⟩ := trod_fld Tryz.underlying26 h 1 rfl (m := 2) (by kernel_rfl)
  obtain ⟨m1, e1, wm1⟩ := op24 h1
  have e1 : [c1, c2] = stampMC m1 := e1
  unfold stampMC at e1
  simp only [List.cons.injEq, and_true] at e1
  obtain ⟨rfl, rfl⟩ := e1
  exact ⟨⟨m0, m1⟩, rfl, wm0, wm1⟩
def wf28 (q : NumM) : Prop := wf2 q.plus ∧ wf2 q.minus
theorem op28 {H : Type} {enc : TypeId × Value → H} {W : World} {fuel : Nat} {cs : List Value} {x : DataW H × List MemPlace} (h : DataW.trod enc Tryz.prog W 0 (fun _ => true) true fuel 28 cs = some x) : ∃ m : NumM, cs = numMC m ∧ wf28 m := by
  have hl := trod_len Tryz.underlying28 (m := 2) (by kernel_rfl) h
  obtain ⟨c0, c1, rfl⟩ : ∃ c0 c1, cs = [c0, c1] := by
    match cs, hl with
    | [c0, c1], _ => exact ⟨c0, c1, rfl⟩
  obtain ⟨n0, y0, h0⟩ := trod_fld Tryz.underlying28 h 0 rfl (m := 1) (by kernel_rfl)
  obtain ⟨m0, e0, wm0⟩ := op2 h0
  have e0 : [c0] = [.int .i64 m0] := e0
  simp only [List.cons.injEq, and_true] at e0
  obtain rfl := e0
  obtain ⟨n1, y1, h1⟩ := trod_fld Tryz.underlying28 h 1 rfl (m := 1) (by kernel_rfl)
  obtain ⟨m1, e1, wm1⟩ := op2 h1
  have e1 : [c1] = [.int .i64 m1] := e1
  simp only [List.cons.injEq, and_true] at e1
  obtain rfl := e1
  exact ⟨⟨m0, m1⟩, rfl, wm0, wm1⟩
def wf41 (q : IdM) : Prop := wf3 q.origin ∧ wf22 q.seq
theorem op41 {H : Type} {enc : TypeId × Value → H} {W : World} {fuel : Nat} {cs : List Value} {x : DataW H × List MemPlace} (h : DataW.trod enc Tryz.prog W 0 (fun _ => true) true fuel 41 cs = some x) : ∃ m : IdM, cs = idMC m ∧ wf41 m := by
  have hl := trod_len Tryz.underlying41 (m := 2) (by kernel_rfl) h
  obtain ⟨c0, c1, rfl⟩ : ∃ c0 c1, cs = [c0, c1] := by
    match cs, hl with
    | [c0, c1], _ => exact ⟨c0, c1, rfl⟩
  obtain ⟨n0, y0, h0⟩ := trod_fld Tryz.underlying41 h 0 rfl (m := 1) (by kernel_rfl)
  obtain ⟨m0, e0, wm0⟩ := op3 h0
  have e0 : [c0] = [.int .i64 m0] := e0
  simp only [List.cons.injEq, and_true] at e0
  obtain rfl := e0
  obtain ⟨n1, y1, h1⟩ := trod_fld Tryz.underlying41 h 1 rfl (m := 1) (by kernel_rfl)
  obtain ⟨m1, e1, wm1⟩ := op22 h1
  have e1 : [c1] = [.int .u32 m1] := e1
  simp only [List.cons.injEq, and_true] at e1
  obtain rfl := e1
  exact ⟨⟨m0, m1⟩, rfl, wm0, wm1⟩
def wf43 (q : TagM) : Prop := wf41 q.id ∧ wf3 q.n
theorem op43 {H : Type} {enc : TypeId × Value → H} {W : World} {fuel : Nat} {cs : List Value} {x : DataW H × List MemPlace} (h : DataW.trod enc Tryz.prog W 0 (fun _ => true) true fuel 43 cs = some x) : ∃ m : TagM, cs = tagMC m ∧ wf43 m := by
  have hl := trod_len Tryz.underlying43 (m := 3) (by kernel_rfl) h
  obtain ⟨c0, c1, c2, rfl⟩ : ∃ c0 c1 c2, cs = [c0, c1, c2] := by
    match cs, hl with
    | [c0, c1, c2], _ => exact ⟨c0, c1, c2, rfl⟩
  obtain ⟨n0, y0, h0⟩ := trod_fld Tryz.underlying43 h 0 rfl (m := 2) (by kernel_rfl)
  obtain ⟨m0, e0, wm0⟩ := op41 h0
  have e0 : [c0, c1] = idMC m0 := e0
  unfold idMC at e0
  simp only [List.cons.injEq, and_true] at e0
  obtain ⟨rfl, rfl⟩ := e0
  obtain ⟨n1, y1, h1⟩ := trod_fld Tryz.underlying43 h 1 rfl (m := 1) (by kernel_rfl)
  obtain ⟨m1, e1, wm1⟩ := op3 h1
  have e1 : [c2] = [.int .i64 m1] := e1
  simp only [List.cons.injEq, and_true] at e1
  obtain rfl := e1
  exact ⟨⟨m0, m1⟩, rfl, wm0, wm1⟩
def wf9 (q : List UInt8) : Prop := q.length ≤ 9223372036854775807
theorem op9 {H : Type} {enc : TypeId × Value → H} {W : World} {fuel : Nat} {cs : List Value} {x : DataW H × List MemPlace} (h : DataW.trod enc Tryz.prog W 0 (fun _ => true) true fuel 9 cs = some x) : ∃ m : List UInt8, cs = [sv m] ∧ wf9 m := by
  obtain ⟨s0, e, _, hs⟩ := DataW.trod_string Tryz.underlying9 h
  obtain ⟨l, rfl⟩ := str_list s0
  exact ⟨l, e, mlen_le (by simpa [ByteArray.size] using hs)⟩
def wf141 (q : AddM) : Prop := wf43 q.tag ∧ wf9 q.elem
theorem op141 {H : Type} {enc : TypeId × Value → H} {W : World} {fuel : Nat} {cs : List Value} {x : DataW H × List MemPlace} (h : DataW.trod enc Tryz.prog W 0 (fun _ => true) true fuel 141 cs = some x) : ∃ m : AddM, cs = addMC m ∧ wf141 m := by
  have hl := trod_len Tryz.underlying141 (m := 4) (by kernel_rfl) h
  obtain ⟨c0, c1, c2, c3, rfl⟩ : ∃ c0 c1 c2 c3, cs = [c0, c1, c2, c3] := by
    match cs, hl with
    | [c0, c1, c2, c3], _ => exact ⟨c0, c1, c2, c3, rfl⟩
  obtain ⟨n0, y0, h0⟩ := trod_fld Tryz.underlying141 h 0 rfl (m := 3) (by kernel_rfl)
  obtain ⟨m0, e0, wm0⟩ := op43 h0
  have e0 : [c0, c1, c2] = tagMC m0 := e0
  unfold tagMC at e0
  simp only [List.cons.injEq, and_true] at e0
  obtain ⟨rfl, rfl, rfl⟩ := e0
  obtain ⟨n1, y1, h1⟩ := trod_fld Tryz.underlying141 h 1 rfl (m := 1) (by kernel_rfl)
  obtain ⟨m1, e1, wm1⟩ := op9 h1
  have e1 : [c3] = [sv m1] := e1
  simp only [List.cons.injEq, and_true] at e1
  obtain rfl := e1
  exact ⟨⟨m0, m1⟩, rfl, wm0, wm1⟩
theorem op29 {H : Type} {enc : TypeId × Value → H} {W : World} {fuel : Nat} {cs : List Value} {x : DataW H × List MemPlace} (h : DataW.trod enc Tryz.prog W 0 (fun _ => true) true fuel 29 cs = some x) : ∃ (m : List AddM) (A : Option Addr) (c : Nat), cs = [.slice A m.length c] ∧ Sld [] W A m.length c 4 (m.flatMap addMC) ∧ (∀ a ∈ m, wf141 a) := by
  obtain ⟨A, l, c, h1, h2, h3⟩ := open_sl (ec := addMC) (wf := wf141) Tryz.underlying29 (m := 4) (by kernel_rfl) (by decide) (fun _ => rfl) (fun _ _ _ h => op141 h) h
  exact ⟨l, A, c, h1, h2, h3⟩
theorem op30 {H : Type} {enc : TypeId × Value → H} {W : World} {fuel : Nat} {cs : List Value} {x : DataW H × List MemPlace} (h : DataW.trod enc Tryz.prog W 0 (fun _ => true) true fuel 30 cs = some x) : ∃ (m : List TagM) (A : Option Addr) (c : Nat), cs = [.slice A m.length c] ∧ Sld [] W A m.length c 3 (m.flatMap tagMC) ∧ (∀ a ∈ m, wf43 a) := by
  obtain ⟨A, l, c, h1, h2, h3⟩ := open_sl (ec := tagMC) (wf := wf43) Tryz.underlying30 (m := 3) (by kernel_rfl) (by decide) (fun _ => rfl) (fun _ _ _ h => op43 h) h
  exact ⟨l, A, c, h1, h2, h3⟩
def wf32 (q : SetM) : Prop := (∀ a ∈ q.adds, wf141 a) ∧ (∀ a ∈ q.gone, wf43 a)
theorem op32 {H : Type} {enc : TypeId × Value → H} {W : World} {fuel : Nat} {cs : List Value} {x : DataW H × List MemPlace} (h : DataW.trod enc Tryz.prog W 0 (fun _ => true) true fuel 32 cs = some x) : ∃ (m : SetM) (Am_adds : Option Addr) (cm_adds : Nat) (Am_gone : Option Addr) (cm_gone : Nat), cs = [.slice Am_adds m.adds.length cm_adds, .slice Am_gone m.gone.length cm_gone] ∧ Sld [] W Am_adds m.adds.length cm_adds 4 (m.adds.flatMap addMC) ∧ Sld [] W Am_gone m.gone.length cm_gone 3 (m.gone.flatMap tagMC) ∧ wf32 m := by
  have hl := trod_len Tryz.underlying32 (m := 2) (by kernel_rfl) h
  obtain ⟨c0, c1, rfl⟩ : ∃ c0 c1, cs = [c0, c1] := by
    match cs, hl with
    | [c0, c1], _ => exact ⟨c0, c1, rfl⟩
  obtain ⟨n0, y0, h0⟩ := trod_fld Tryz.underlying32 h 0 rfl (m := 1) (by kernel_rfl)
  obtain ⟨m0, Am0, cm0, e0, sm0, wm0⟩ := op29 h0
  have e0 : [c0] = [.slice Am0 m0.length cm0] := e0
  simp only [List.cons.injEq, and_true] at e0
  obtain rfl := e0
  obtain ⟨n1, y1, h1⟩ := trod_fld Tryz.underlying32 h 1 rfl (m := 1) (by kernel_rfl)
  obtain ⟨m1, Am1, cm1, e1, sm1, wm1⟩ := op30 h1
  have e1 : [c1] = [.slice Am1 m1.length cm1] := e1
  simp only [List.cons.injEq, and_true] at e1
  obtain rfl := e1
  exact ⟨⟨m0, m1⟩, Am0, cm0, Am1, cm1, rfl, sm0, sm1, ⟨wm0, wm1⟩⟩
def wf143 (q : PutM) : Prop := wf43 q.tag ∧ wf9 q.field ∧ wf2 q.val ∧ wf24 q.atF
theorem op143 {H : Type} {enc : TypeId × Value → H} {W : World} {fuel : Nat} {cs : List Value} {x : DataW H × List MemPlace} (h : DataW.trod enc Tryz.prog W 0 (fun _ => true) true fuel 143 cs = some x) : ∃ m : PutM, cs = putMC m ∧ wf143 m := by
  have hl := trod_len Tryz.underlying143 (m := 7) (by kernel_rfl) h
  obtain ⟨c0, c1, c2, c3, c4, c5, c6, rfl⟩ : ∃ c0 c1 c2 c3 c4 c5 c6, cs = [c0, c1, c2, c3, c4, c5, c6] := by
    match cs, hl with
    | [c0, c1, c2, c3, c4, c5, c6], _ => exact ⟨c0, c1, c2, c3, c4, c5, c6, rfl⟩
  obtain ⟨n0, y0, h0⟩ := trod_fld Tryz.underlying143 h 0 rfl (m := 3) (by kernel_rfl)
  obtain ⟨m0, e0, wm0⟩ := op43 h0
  have e0 : [c0, c1, c2] = tagMC m0 := e0
  unfold tagMC at e0
  simp only [List.cons.injEq, and_true] at e0
  obtain ⟨rfl, rfl, rfl⟩ := e0
  obtain ⟨n1, y1, h1⟩ := trod_fld Tryz.underlying143 h 1 rfl (m := 1) (by kernel_rfl)
  obtain ⟨m1, e1, wm1⟩ := op9 h1
  have e1 : [c3] = [sv m1] := e1
  simp only [List.cons.injEq, and_true] at e1
  obtain rfl := e1
  obtain ⟨n2, y2, h2⟩ := trod_fld Tryz.underlying143 h 2 rfl (m := 1) (by kernel_rfl)
  obtain ⟨m2, e2, wm2⟩ := op2 h2
  have e2 : [c4] = [.int .i64 m2] := e2
  simp only [List.cons.injEq, and_true] at e2
  obtain rfl := e2
  obtain ⟨n3, y3, h3⟩ := trod_fld Tryz.underlying143 h 3 rfl (m := 2) (by kernel_rfl)
  obtain ⟨m3, e3, wm3⟩ := op24 h3
  have e3 : [c5, c6] = stampMC m3 := e3
  unfold stampMC at e3
  simp only [List.cons.injEq, and_true] at e3
  obtain ⟨rfl, rfl⟩ := e3
  exact ⟨⟨m0, m1, m2, m3⟩, rfl, wm0, wm1, wm2, wm3⟩
theorem op33 {H : Type} {enc : TypeId × Value → H} {W : World} {fuel : Nat} {cs : List Value} {x : DataW H × List MemPlace} (h : DataW.trod enc Tryz.prog W 0 (fun _ => true) true fuel 33 cs = some x) : ∃ (m : List PutM) (A : Option Addr) (c : Nat), cs = [.slice A m.length c] ∧ Sld [] W A m.length c 7 (m.flatMap putMC) ∧ (∀ a ∈ m, wf143 a) := by
  obtain ⟨A, l, c, h1, h2, h3⟩ := open_sl (ec := putMC) (wf := wf143) Tryz.underlying33 (m := 7) (by kernel_rfl) (by decide) (fun _ => rfl) (fun _ _ _ h => op143 h) h
  exact ⟨l, A, c, h1, h2, h3⟩
def wf35 (q : MapM) : Prop := (∀ a ∈ q.puts, wf143 a) ∧ (∀ a ∈ q.gone, wf43 a)
theorem op35 {H : Type} {enc : TypeId × Value → H} {W : World} {fuel : Nat} {cs : List Value} {x : DataW H × List MemPlace} (h : DataW.trod enc Tryz.prog W 0 (fun _ => true) true fuel 35 cs = some x) : ∃ (m : MapM) (Am_puts : Option Addr) (cm_puts : Nat) (Am_gone : Option Addr) (cm_gone : Nat), cs = [.slice Am_puts m.puts.length cm_puts, .slice Am_gone m.gone.length cm_gone] ∧ Sld [] W Am_puts m.puts.length cm_puts 7 (m.puts.flatMap putMC) ∧ Sld [] W Am_gone m.gone.length cm_gone 3 (m.gone.flatMap tagMC) ∧ wf35 m := by
  have hl := trod_len Tryz.underlying35 (m := 2) (by kernel_rfl) h
  obtain ⟨c0, c1, rfl⟩ : ∃ c0 c1, cs = [c0, c1] := by
    match cs, hl with
    | [c0, c1], _ => exact ⟨c0, c1, rfl⟩
  obtain ⟨n0, y0, h0⟩ := trod_fld Tryz.underlying35 h 0 rfl (m := 1) (by kernel_rfl)
  obtain ⟨m0, Am0, cm0, e0, sm0, wm0⟩ := op33 h0
  have e0 : [c0] = [.slice Am0 m0.length cm0] := e0
  simp only [List.cons.injEq, and_true] at e0
  obtain rfl := e0
  obtain ⟨n1, y1, h1⟩ := trod_fld Tryz.underlying35 h 1 rfl (m := 1) (by kernel_rfl)
  obtain ⟨m1, Am1, cm1, e1, sm1, wm1⟩ := op30 h1
  have e1 : [c1] = [.slice Am1 m1.length cm1] := e1
  simp only [List.cons.injEq, and_true] at e1
  obtain rfl := e1
  exact ⟨⟨m0, m1⟩, Am0, cm0, Am1, cm1, rfl, sm0, sm1, ⟨wm0, wm1⟩⟩
def wf37 (q : ObjM) : Prop := wf3 q.kind ∧ wf26 q.reg ∧ wf28 q.num ∧ wf32 q.setF ∧ wf35 q.map
theorem op37 {H : Type} {enc : TypeId × Value → H} {W : World} {fuel : Nat} {cs : List Value} {x : DataW H × List MemPlace} (h : DataW.trod enc Tryz.prog W 0 (fun _ => true) true fuel 37 cs = some x) : ∃ (m : ObjM) (Am_setF_adds : Option Addr) (cm_setF_adds : Nat) (Am_setF_gone : Option Addr) (cm_setF_gone : Nat) (Am_map_puts : Option Addr) (cm_map_puts : Nat) (Am_map_gone : Option Addr) (cm_map_gone : Nat), cs = [.int .i64 m.kind, .int .i64 m.reg.val, .int .u32 m.reg.atF.time, .int .i64 m.reg.atF.origin, .int .i64 m.num.plus, .int .i64 m.num.minus, .slice Am_setF_adds m.setF.adds.length cm_setF_adds, .slice Am_setF_gone m.setF.gone.length cm_setF_gone, .slice Am_map_puts m.map.puts.length cm_map_puts, .slice Am_map_gone m.map.gone.length cm_map_gone] ∧ Sld [] W Am_setF_adds m.setF.adds.length cm_setF_adds 4 (m.setF.adds.flatMap addMC) ∧ Sld [] W Am_setF_gone m.setF.gone.length cm_setF_gone 3 (m.setF.gone.flatMap tagMC) ∧ Sld [] W Am_map_puts m.map.puts.length cm_map_puts 7 (m.map.puts.flatMap putMC) ∧ Sld [] W Am_map_gone m.map.gone.length cm_map_gone 3 (m.map.gone.flatMap tagMC) ∧ wf37 m := by
  have hl := trod_len Tryz.underlying37 (m := 10) (by kernel_rfl) h
  obtain ⟨c0, c1, c2, c3, c4, c5, c6, c7, c8, c9, rfl⟩ : ∃ c0 c1 c2 c3 c4 c5 c6 c7 c8 c9, cs = [c0, c1, c2, c3, c4, c5, c6, c7, c8, c9] := by
    match cs, hl with
    | [c0, c1, c2, c3, c4, c5, c6, c7, c8, c9], _ => exact ⟨c0, c1, c2, c3, c4, c5, c6, c7, c8, c9, rfl⟩
  obtain ⟨n0, y0, h0⟩ := trod_fld Tryz.underlying37 h 0 rfl (m := 1) (by kernel_rfl)
  obtain ⟨m0, e0, wm0⟩ := op3 h0
  have e0 : [c0] = [.int .i64 m0] := e0
  simp only [List.cons.injEq, and_true] at e0
  obtain rfl := e0
  obtain ⟨n1, y1, h1⟩ := trod_fld Tryz.underlying37 h 1 rfl (m := 3) (by kernel_rfl)
  obtain ⟨m1, e1, wm1⟩ := op26 h1
  have e1 : [c1, c2, c3] = regMC m1 := e1
  unfold regMC at e1
  simp only [List.cons.injEq, and_true] at e1
  obtain ⟨rfl, rfl, rfl⟩ := e1
  obtain ⟨n2, y2, h2⟩ := trod_fld Tryz.underlying37 h 2 rfl (m := 2) (by kernel_rfl)
  obtain ⟨m2, e2, wm2⟩ := op28 h2
  have e2 : [c4, c5] = numMC m2 := e2
  unfold numMC at e2
  simp only [List.cons.injEq, and_true] at e2
  obtain ⟨rfl, rfl⟩ := e2
  obtain ⟨n3, y3, h3⟩ := trod_fld Tryz.underlying37 h 3 rfl (m := 2) (by kernel_rfl)
  obtain ⟨m3, Am3_adds, cm3_adds, Am3_gone, cm3_gone, e3, sm3_adds, sm3_gone, wm3⟩ := op32 h3
  have e3 : [c6, c7] = [.slice Am3_adds m3.adds.length cm3_adds, .slice Am3_gone m3.gone.length cm3_gone] := e3
  simp only [List.cons.injEq, and_true] at e3
  obtain ⟨rfl, rfl⟩ := e3
  obtain ⟨n4, y4, h4⟩ := trod_fld Tryz.underlying37 h 4 rfl (m := 2) (by kernel_rfl)
  obtain ⟨m4, Am4_puts, cm4_puts, Am4_gone, cm4_gone, e4, sm4_puts, sm4_gone, wm4⟩ := op35 h4
  have e4 : [c8, c9] = [.slice Am4_puts m4.puts.length cm4_puts, .slice Am4_gone m4.gone.length cm4_gone] := e4
  simp only [List.cons.injEq, and_true] at e4
  obtain ⟨rfl, rfl⟩ := e4
  exact ⟨⟨m0, m1, m2, m3, m4⟩, Am3_adds, cm3_adds, Am3_gone, cm3_gone, Am4_puts, cm4_puts, Am4_gone, cm4_gone, rfl, sm3_adds, sm3_gone, sm4_puts, sm4_gone, ⟨wm0, wm1, wm2, wm3, wm4⟩⟩
def wf39 (q : OpM) : Prop := wf3 q.act ∧ wf9 q.name ∧ wf2 q.val
theorem op39 {H : Type} {enc : TypeId × Value → H} {W : World} {fuel : Nat} {cs : List Value} {x : DataW H × List MemPlace} (h : DataW.trod enc Tryz.prog W 0 (fun _ => true) true fuel 39 cs = some x) : ∃ m : OpM, cs = opMC m ∧ wf39 m := by
  have hl := trod_len Tryz.underlying39 (m := 3) (by kernel_rfl) h
  obtain ⟨c0, c1, c2, rfl⟩ : ∃ c0 c1 c2, cs = [c0, c1, c2] := by
    match cs, hl with
    | [c0, c1, c2], _ => exact ⟨c0, c1, c2, rfl⟩
  obtain ⟨n0, y0, h0⟩ := trod_fld Tryz.underlying39 h 0 rfl (m := 1) (by kernel_rfl)
  obtain ⟨m0, e0, wm0⟩ := op3 h0
  have e0 : [c0] = [.int .i64 m0] := e0
  simp only [List.cons.injEq, and_true] at e0
  obtain rfl := e0
  obtain ⟨n1, y1, h1⟩ := trod_fld Tryz.underlying39 h 1 rfl (m := 1) (by kernel_rfl)
  obtain ⟨m1, e1, wm1⟩ := op9 h1
  have e1 : [c1] = [sv m1] := e1
  simp only [List.cons.injEq, and_true] at e1
  obtain rfl := e1
  obtain ⟨n2, y2, h2⟩ := trod_fld Tryz.underlying39 h 2 rfl (m := 1) (by kernel_rfl)
  obtain ⟨m2, e2, wm2⟩ := op2 h2
  have e2 : [c2] = [.int .i64 m2] := e2
  simp only [List.cons.injEq, and_true] at e2
  obtain rfl := e2
  exact ⟨⟨m0, m1, m2⟩, rfl, wm0, wm1, wm2⟩
set_option maxRecDepth 100000 in
theorem objBack_walk (W : World) (args : Array Value) (h : ArgsOk Tryz.f3 W args) (hsh : W.ShapedOpen Tryz.prog) (hL : laidMetH Tryz.prog Rows.objBackRow.laid W) : Fn Tryz.prog 3 args.toList W fun v w' => v = .bool true ∧ Fr [] W w' := by
  obtain ⟨H, enc, base, ds, p, hval, hA, _⟩ := h
  rw [Tryz.params3] at hA hval
  obtain ⟨v0, vs0, d0, ds0, p0, q0, hargs, rfl, rfl, h0, r0⟩ := trodAll_cons hA
  obtain ⟨v1, vs1, d1, ds1, p1, q1, rfl, rfl, rfl, h1, r1⟩ := trodAll_cons r0
  obtain ⟨v2, vs2, d2, ds2, p2, q2, rfl, rfl, rfl, h2, r2⟩ := trodAll_cons r1
  obtain ⟨v3, vs3, d3, ds3, p3, q3, rfl, rfl, rfl, h3, r3⟩ := trodAll_cons r2
  obtain ⟨rfl, rfl, rfl⟩ := trodAll_nil r3
  obtain rfl : args = #[v0, v1, v2, v3] := by cases args; simp_all
  obtain ⟨fu0, h0⟩ := h0
  obtain ⟨a0, Aa0_setF_adds, ca0_setF_adds, Aa0_setF_gone, ca0_setF_gone, Aa0_map_puts, ca0_map_puts, Aa0_map_gone, ca0_map_gone, e0, sa0_setF_adds, sa0_setF_gone, sa0_map_puts, sa0_map_gone, wa0⟩ := op37 h0
  obtain rfl := agg_val (by rw [Ty.ag_37]; simp) (hval 0 37 v0 rfl rfl) e0
  obtain ⟨fu1, h1⟩ := h1
  obtain ⟨a1, e1, wa1⟩ := op39 h1
  obtain rfl := agg_val (by rw [Ty.ag_39]; simp) (hval 1 39 v1 rfl rfl) e1
  obtain ⟨fu2, h2⟩ := h2
  obtain ⟨a2, e2, wa2⟩ := op43 h2
  obtain rfl := agg_val (by rw [Ty.ag_43]; simp) (hval 2 43 v2 rfl rfl) e2
  obtain ⟨fu3, h3⟩ := h3
  obtain ⟨a3, e3, wa3⟩ := op9 h3
  obtain rfl := str_val Tryz.underlying9 (hval 3 9 v3 rfl rfl) e3
  obtain ⟨mx, hmx⟩ := Tryz.laysM146.s1_3 W hsh
  obtain ⟨_, _, _, ⟨u1, u2⟩, ⟨u3, u4⟩⟩ := wa0
  exact objBack_ok [] W (by simp [Lo]) a0 Aa0_setF_adds ca0_setF_adds Aa0_setF_gone ca0_setF_gone Aa0_map_puts ca0_map_puts Aa0_map_gone ca0_map_gone a1 a2 a3 sa0_setF_adds sa0_setF_gone sa0_map_puts sa0_map_gone mx hmx ⟨fun a ha => (u1 a ha).1.1.2.1, fun a ha => (u3 a ha).1.1.2.1, wa1.2.2, wa2.1.2.1⟩
set_option maxRecDepth 100000 in
theorem objBack_lifted (os : Os) (started : os.Started) (H : Type) (enc : TypeId × Value → H) :
    ReturnsInHanded {} Tryz.checked os 3 .any (fun w args => (Rows.objBackSpec.pre enc Tryz.prog Tryz.f3 Rows.objBackRow.domain false w args ∧ laidMetH Tryz.prog Rows.objBackRow.laid w) ∧ sizedMet enc Tryz.prog Tryz.f3 (OpenSpec.ofChange Rows.objBackSpec) false w args) (Rows.objBackSpec.post enc Tryz.prog Tryz.f3 false true false false) :=
  law_liftD Tryz.func3 (by kernel_rfl) rfl rfl Tryz.underlying4 (by kernel_rfl) (fun H ds h => by
    match ds, h with
    | [a0, a1, a2, a3], _ => rfl) objBack_walk os started H enc
    (ChangeSpec.witness_shaped (enc := enc) (C := Tryz.checked) (os := os) (X := fun w _ => laidMetH Tryz.prog Rows.objBackRow.laid w) false (World.laidAll Tryz.prog os Rows.objBackRow.laid) #[.agg #[.int .i64 0, .int .i64 0, .int .u32 0, .int .i64 0, .int .i64 0, .int .i64 0, .slice none 0 0, .slice none 0 0, .slice none 0 0, .slice none 0 0], .agg #[.int .i64 0, sv [], .int .i64 0], .agg #[.int .i64 0, .int .u32 0, .int .i64 0], sv []] 8 (World.laidAll_os _ _ _)
      (World.shaped_of_ZipB (by kernel_rfl) (by kernel_rfl)) (by kernel_rfl) (by kernel_rfl) (by kernel_rfl)
      (by rw [MakeChecks.laidMetH_plain _ _ _ (by kernel_rfl)]; exact laidMet_laidAll _ (by kernel_rfl) (by kernel_rfl)))
theorem objBack_said : Rows.ObjBackSaid :=
  OpenClaim.holds_of_wide 3 Tryz.f3 rfl rfl rfl rfl rfl rfl rfl ⟨rfl, rfl, rfl, rfl, rfl⟩ rfl rfl rfl rfl rfl (by kernel_rfl) Tryz.func3 (by kernel_rfl)
    (of_decide_eq_true (by kernel_rfl)) (by unfold Func.isWrapper; first | (rw [if_pos (by decide +kernel)]; kernel_rfl) | (rw [if_neg (by decide +kernel)]; exact ⟨rfl, rfl⟩))
    (fun os started H enc _ => objBack_lifted os started H enc)
theorem objBack_holds : Rows.ObjBackCardSaid :=
  Claim7.holds_tied_plain_at .later [] Rows.objBackCard.laidKinds true Rows.objBackCard.stood.harness Rows.objBackCard.stood.looks objBack_said (fun _ h => by cases h) (by kernel_rfl) (fun _ h => by cases h) objBack_row_tie rfl ⟨rfl, rfl⟩ (by kernel_rfl) rfl
    (fun f fn hf hfn => by
      obtain rfl : f = 3 := Option.some.inj ((show Tryz.prog.funcNamed Rows.objBackRow.func = some 3 by kernel_rfl).symm.trans hf) |>.symm
      obtain rfl : fn = Tryz.f3 := (Option.some.inj (Tryz.func3.symm.trans hfn)).symm
      exact ⟨by kernel_rfl, fun j t ht => by
        rw [Tryz.params3] at ht
        have hm : t ∈ [37, 39, 43, 9] := by simpa using Array.mem_of_getElem? ht
        have hall : ([37, 39, 43, 9].all fun u => !Tryz.prog.wantsStandIn u) = true := by kernel_rfl
        exact (show Tryz.prog.wantsStandIn t = false by simpa using List.all_eq_true.1 hall t hm)⟩)
    (by kernel_rfl)
#print axioms objBack_holds
end Go.Proofs.YtdckemiebnfjcaaGreatDoor

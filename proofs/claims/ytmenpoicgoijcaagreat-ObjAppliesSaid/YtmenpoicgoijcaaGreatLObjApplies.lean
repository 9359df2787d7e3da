/- Walks printed by gen2.py out of our own specifications: what the functions named below do. -/
import Derived.Test.YtmenpoicgoijcaaGreatSc
import Derived.Test.YtmenpoicgoijcaaGreatZW
import Derived.Test.YtmenpoicgoijcaaGreatOp
set_option linter.unusedSimpArgs false
set_option linter.unusedVariables false
set_option maxRecDepth 20000
namespace Go.Proofs.YtmenpoicgoijcaaGreat
open Go.RowKit
open Go.ChangeShapes Go.WideShapes Go.ChangeAt Go.RowKit Go.Joins
def wf3 (q : Int) : Prop := -9223372036854775808 ≤ q ∧ q ≤ 9223372036854775807
theorem op3 {H : Type} {enc : TypeId × Value → H} {W : World} {fuel : Nat} {cs : List Value} {x : DataW H × List MemPlace} (h : DataW.trod enc Tryz.prog W 0 (fun _ => true) true fuel 3 cs = some x) : ∃ m : Int, cs = [.int .i64 m] ∧ wf3 m := by
  obtain ⟨q, e, _, w0⟩ := DataW.trod_int Tryz.underlying3 h
  have := bounds_i64 w0
  exact ⟨q, e, by unfold wf3; omega⟩
def wf2 (q : Int) : Prop := -9223372036854775808 ≤ q ∧ q ≤ 9223372036854775807
theorem op2 {H : Type} {enc : TypeId × Value → H} {W : World} {fuel : Nat} {cs : List Value} {x : DataW H × List MemPlace} (h : DataW.trod enc Tryz.prog W 0 (fun _ => true) true fuel 2 cs = some x) : ∃ m : Int, cs = [.int .i64 m] ∧ wf2 m := by
  obtain ⟨q, e, _, w0⟩ := DataW.trod_int Tryz.underlying2 h
  have := bounds_i64 w0
  exact ⟨q, e, by unfold wf2; omega⟩
def wf22 (q : Int) : Prop := 0 ≤ q ∧ q ≤ 4294967295
theorem op22 {H : Type} {enc : TypeId × Value → H} {W : World} {fuel : Nat} {cs : List Value} {x : DataW H × List MemPlace} (h : DataW.trod enc Tryz.prog W 0 (fun _ => true) true fuel 22 cs = some x) : ∃ m : Int, cs = [.int .u32 m] ∧ wf22 m := by
  obtain ⟨q, e, _, w0⟩ := DataW.trod_int Tryz.underlying22 h
  have := bounds_u32 w0
  exact ⟨q, e, by unfold wf22; omega⟩
def wf24 (q : StampM) : Prop := wf22 q.time ∧ wf3 q.origin
theorem op24 {H : Type} {enc : TypeId × Value → H} {W : World} {fuel : Nat} {cs : List Value} {x : DataW H × List MemPlace} (h : DataW.trod enc Tryz.prog W 0 (fun _ => true) true fuel 24 cs = some x) : ∃ m : StampM, cs = stampMC m ∧ wf24 m := by
  have hl := trod_len Tryz.underlying24 (m := 2) (by kernel_rfl) h
  obtain ⟨c0, c1, rfl⟩ : ∃ c0 c1, cs = [c0, c1] := by
    match cs, hl with
    | [c0, c1], _ => exact ⟨c0, c1, rfl⟩
  obtain ⟨n0, y0, h0⟩ := trod_fld Tryz.underlying24 h 0 rfl (m := 1) (by kernel_rfl)
  obtain ⟨m0, e0, wm0⟩ := op22 h0
  have e0 : [c0] = [.int .u32 m0] := e0
  simp only [List.cons.injEq, and_true] at e0
  obtain rfl := e0
  obtain ⟨n1, y1, h1⟩ := trod_fld Tryz.underlying24 h 1 rfl (m := 1) (by kernel_rfl)
  obtain ⟨m1, e1, wm1⟩ := op3 h1
  have e1 : [c1] = [.int .i64 m1] := e1
  simp only [List.cons.injEq, and_true] at e1
  obtain rfl := e1
  exact ⟨⟨m0, m1⟩, rfl, wm0, wm1⟩
def wf26 (q : RegM) : Prop := wf2 q.val ∧ wf24 q.atF
theorem op26 {H : Type} {enc : TypeId × Value → H} {W : World} {fuel : Nat} {cs : List Value} {x : DataW H × List MemPlace} (h : DataW.trod enc Tryz.prog W 0 (fun _ => true) true fuel 26 cs = some x) : ∃ m : RegM, cs = regMC m ∧ wf26 m := by
  have hl := trod_len Tryz.underlying26 (m := 3) (by kernel_rfl) h
  obtain ⟨c0, c1, c2, rfl⟩ : ∃ c0 c1 c2, cs = [c0, c1, c2] := by
    match cs, hl with
    | [c0, c1, c2], _ => exact ⟨c0, c1, c2, rfl⟩
  obtain ⟨n0, y0, h0⟩ := trod_fld Tryz.underlying26 h 0 rfl (m := 1) (by kernel_rfl)
  obtain ⟨m0, e0, wm0⟩ := op2 h0
  have e0 : [c0] = [.int .i64 m0] := e0
  simp only [List.cons.injEq, and_true] at e0
  obtain rfl := e0
  obtain ⟨n1, y1, h1⟩ := trod_fld Tryz.underlying26 h 1 rfl (m := 2) (by kernel_rfl)
  obtain ⟨m1, e1, wm1⟩ := op24 h1
  have e1 : [c1, c2] = stampMC m1 := e1
  unfold stampMC at e1
  simp only [List.cons.injEq, and_true] at e1
  obtain ⟨rfl, rfl⟩ := e1
  exact ⟨⟨m0, m1⟩, rfl, wm0, wm1⟩
def wf28 (q : NumM) : Prop := wf2 q.plus ∧ wf2 q.minus
theorem op28 {H : Type} {enc : TypeId × Value → H} {W : World} {fuel : Nat} {cs : List Value} {x : DataW H × List MemPlace} (h : DataW.trod enc Tryz.prog W 0 (fun _ => true) true fuel 28 cs = some x) : ∃ m : NumM, cs = numMC m ∧ wf28 m := by
  have hl := trod_len Tryz.underlying28 (m := 2) (by kernel_rfl) h
  obtain ⟨c0, c1, rfl⟩ : ∃ c0 c1, cs = [c0, c1] := by
    match cs, hl with
    | [c0, c1], _ => exact ⟨c0, c1, rfl⟩
  obtain ⟨n0, y0, h0⟩ := trod_fld Tryz.underlying28 h 0 rfl (m := 1) (by kernel_rfl)
  obtain ⟨m0, e0, wm0⟩ := op2 h0
  have e0 : [c0] = [.int .i64 m0] := e0
  simp only [List.cons.injEq, and_true] at e0
  obtain rfl := e0
  obtain ⟨n1, y1, h1⟩ := trod_fld Tryz.underlying28 h 1 rfl (m := 1) (by kernel_rfl)
  obtain ⟨m1, e1, wm1⟩ := op2 h1
  have e1 : [c1] = [.int .i64 m1] := e1
  simp only [List.cons.injEq, and_true] at e1
  obtain rfl := e1
  exact ⟨⟨m0, m1⟩, rfl, wm0, wm1⟩
def wf39 (q : IdM) : Prop := wf3 q.origin ∧ wf22 q.seq
theorem op39 {H : Type} {enc : TypeId × Value → H} {W : World} {fuel : Nat} {cs : List Value} {x : DataW H × List MemPlace} (h : DataW.trod enc Tryz.prog W 0 (fun _ => true) true fuel 39 cs = some x) : ∃ m : IdM, cs = idMC m ∧ wf39 m := by
  have hl := trod_len Tryz.underlying39 (m := 2) (by kernel_rfl) h
  obtain ⟨c0, c1, rfl⟩ : ∃ c0 c1, cs = [c0, c1] := by
    match cs, hl with
    | [c0, c1], _ => exact ⟨c0, c1, rfl⟩
  obtain ⟨n0, y0, h0⟩ := trod_fld Tryz.underlying39 h 0 rfl (m := 1) (by kernel_rfl)
  obtain ⟨m0, e0, wm0⟩ := op3 h0
  have e0 : [c0] = [.int .i64 m0] := e0
  simp only [List.cons.injEq, and_true] at e0
  obtain rfl := e0
  obtain ⟨n1, y1, h1⟩ := trod_fld Tryz.underlying39 h 1 rfl (m := 1) (by kernel_rfl)
  obtain ⟨m1, e1, wm1⟩ := op22 h1
  have e1 : [c1] = [.int .u32 m1] := e1
  simp only [List.cons.injEq, and_true] at e1
  obtain rfl := e1
  exact ⟨⟨m0, m1⟩, rfl, wm0, wm1⟩
def wf41 (q : TagM) : Prop := wf39 q.id ∧ wf3 q.n
theorem op41 {H : Type} {enc : TypeId × Value → H} {W : World} {fuel : Nat} {cs : List Value} {x : DataW H × List MemPlace} (h : DataW.trod enc Tryz.prog W 0 (fun _ => true) true fuel 41 cs = some x) : ∃ m : TagM, cs = tagMC m ∧ wf41 m := by
  have hl := trod_len Tryz.underlying41 (m := 3) (by kernel_rfl) h
  obtain ⟨c0, c1, c2, rfl⟩ : ∃ c0 c1 c2, cs = [c0, c1, c2] := by
    match cs, hl with
    | [c0, c1, c2], _ => exact ⟨c0, c1, c2, rfl⟩
  obtain ⟨n0, y0, h0⟩ := trod_fld Tryz.underlying41 h 0 rfl (m := 2) (by kernel_rfl)
  obtain ⟨m0, e0, wm0⟩ := op39 h0
  have e0 : [c0, c1] = idMC m0 := e0
  unfold idMC at e0
  simp only [List.cons.injEq, and_true] at e0
  obtain ⟨rfl, rfl⟩ := e0
  obtain ⟨n1, y1, h1⟩ := trod_fld Tryz.underlying41 h 1 rfl (m := 1) (by kernel_rfl)
  obtain ⟨m1, e1, wm1⟩ := op3 h1
  have e1 : [c2] = [.int .i64 m1] := e1
  simp only [List.cons.injEq, and_true] at e1
  obtain rfl := e1
  exact ⟨⟨m0, m1⟩, rfl, wm0, wm1⟩
def wf9 (q : List UInt8) : Prop := q.length ≤ 9223372036854775807
theorem op9 {H : Type} {enc : TypeId × Value → H} {W : World} {fuel : Nat} {cs : List Value} {x : DataW H × List MemPlace} (h : DataW.trod enc Tryz.prog W 0 (fun _ => true) true fuel 9 cs = some x) : ∃ m : List UInt8, cs = [sv m] ∧ wf9 m := by
  obtain ⟨s0, e, _, hs⟩ := DataW.trod_string Tryz.underlying9 h
  obtain ⟨l, rfl⟩ := str_list s0
  exact ⟨l, e, mlen_le (by simpa [ByteArray.size] using hs)⟩
def wf110 (q : AddM) : Prop := wf41 q.tag ∧ wf9 q.elem
theorem op110 {H : Type} {enc : TypeId × Value → H} {W : World} {fuel : Nat} {cs : List Value} {x : DataW H × List MemPlace} (h : DataW.trod enc Tryz.prog W 0 (fun _ => true) true fuel 110 cs = some x) : ∃ m : AddM, cs = addMC m ∧ wf110 m := by
  have hl := trod_len Tryz.underlying110 (m := 4) (by kernel_rfl) h
  obtain ⟨c0, c1, c2, c3, rfl⟩ : ∃ c0 c1 c2 c3, cs = [c0, c1, c2, c3] := by
    match cs, hl with
    | [c0, c1, c2, c3], _ => exact ⟨c0, c1, c2, c3, rfl⟩
  obtain ⟨n0, y0, h0⟩ := trod_fld Tryz.underlying110 h 0 rfl (m := 3) (by kernel_rfl)
  obtain ⟨m0, e0, wm0⟩ := op41 h0
  have e0 : [c0, c1, c2] = tagMC m0 := e0
  unfold tagMC at e0
  simp only [List.cons.injEq, and_true] at e0
  obtain ⟨rfl, rfl, rfl⟩ := e0
  obtain ⟨n1, y1, h1⟩ := trod_fld Tryz.underlying110 h 1 rfl (m := 1) (by kernel_rfl)
  obtain ⟨m1, e1, wm1⟩ := op9 h1
  have e1 : [c3] = [sv m1] := e1
  simp only [List.cons.injEq, and_true] at e1
  obtain rfl := e1
  exact ⟨⟨m0, m1⟩, rfl, wm0, wm1⟩
theorem op29 {H : Type} {enc : TypeId × Value → H} {W : World} {fuel : Nat} {cs : List Value} {x : DataW H × List MemPlace} (h : DataW.trod enc Tryz.prog W 0 (fun _ => true) true fuel 29 cs = some x) : ∃ (m : List AddM) (A : Option Addr) (c : Nat), cs = [.slice A m.length c] ∧ Sld [] W A m.length c 4 (m.flatMap addMC) ∧ (∀ a ∈ m, wf110 a) := by
  obtain ⟨A, l, c, h1, h2, h3⟩ := open_sl (ec := addMC) (wf := wf110) Tryz.underlying29 (m := 4) (by kernel_rfl) (by decide) (fun _ => rfl) (fun _ _ _ h => op110 h) h
  exact ⟨l, A, c, h1, h2, h3⟩
theorem op30 {H : Type} {enc : TypeId × Value → H} {W : World} {fuel : Nat} {cs : List Value} {x : DataW H × List MemPlace} (h : DataW.trod enc Tryz.prog W 0 (fun _ => true) true fuel 30 cs = some x) : ∃ (m : List TagM) (A : Option Addr) (c : Nat), cs = [.slice A m.length c] ∧ Sld [] W A m.length c 3 (m.flatMap tagMC) ∧ (∀ a ∈ m, wf41 a) := by
  obtain ⟨A, l, c, h1, h2, h3⟩ := open_sl (ec := tagMC) (wf := wf41) Tryz.underlying30 (m := 3) (by kernel_rfl) (by decide) (fun _ => rfl) (fun _ _ _ h => op41 h) h
  exact ⟨l, A, c, h1, h2, h3⟩
def wf32 (q : SetM) : Prop := (∀ a ∈ q.adds, wf110 a) ∧ (∀ a ∈ q.gone, wf41 a)
theorem op32 {H : Type} {enc : TypeId × Value → H} {W : World} {fuel : Nat} {cs : List Value} {x : DataW H × List MemPlace} (h : DataW.trod enc Tryz.prog W 0 (fun _ => true) true fuel 32 cs = some x) : ∃ (m : SetM) (Am_adds : Option Addr) (cm_adds : Nat) (Am_gone : Option Addr) (cm_gone : Nat), cs = [.slice Am_adds m.adds.length cm_adds, .slice Am_gone m.gone.length cm_gone] ∧ Sld [] W Am_adds m.adds.length cm_adds 4 (m.adds.flatMap addMC) ∧ Sld [] W Am_gone m.gone.length cm_gone 3 (m.gone.flatMap tagMC) ∧ wf32 m := by
  have hl := trod_len Tryz.underlying32 (m := 2) (by kernel_rfl) h
  obtain ⟨c0, c1, rfl⟩ : ∃ c0 c1, cs = [c0, c1] := by
    match cs, hl with
    | [c0, c1], _ => exact ⟨c0, c1, rfl⟩
  obtain ⟨n0, y0, h0⟩ := trod_fld Tryz.underlying32 h 0 rfl (m := 1) (by kernel_rfl)
  obtain ⟨m0, Am0, cm0, e0, sm0, wm0⟩ := op29 h0
  have e0 : [c0] = [.slice Am0 m0.length cm0] := e0
  simp only [List.cons.injEq, and_true] at e0
  obtain rfl := e0
  obtain ⟨n1, y1, h1⟩ := trod_fld Tryz.underlying32 h 1 rfl (m := 1) (by kernel_rfl)
  obtain ⟨m1, Am1, cm1, e1, sm1, wm1⟩ := op30 h1
  have e1 : [c1] = [.slice Am1 m1.length cm1] := e1
  simp only [List.cons.injEq, and_true] at e1
  obtain rfl := e1
  exact ⟨⟨m0, m1⟩, Am0, cm0, Am1, cm1, rfl, sm0, sm1, ⟨wm0, wm1⟩⟩
def wf114 (q : PutM) : Prop := wf41 q.tag ∧ wf9 q.field ∧ wf2 q.val ∧ wf24 q.atF
theorem op114 {H : Type} {enc : TypeId × Value → H} {W : World} {fuel : Nat} {cs : List Value} {x : DataW H × List MemPlace} (h : DataW.trod enc Tryz.prog W 0 (fun _ => true) true fuel 114 cs = some x) : ∃ m : PutM, cs = putMC m ∧ wf114 m := by
  have hl := trod_len Tryz.underlying114 (m := 7) (by kernel_rfl) h
  obtain ⟨c0, c1, c2, c3, c4, c5, c6, rfl⟩ : ∃ c0 c1 c2 c3 c4 c5 c6, cs = [c0, c1, c2, c3, c4, c5, c6] := by
    match cs, hl with
    | [c0, c1, c2, c3, c4, c5, c6], _ => exact ⟨c0, c1, c2, c3, c4, c5, c6, rfl⟩
  obtain ⟨n0, y0, h0⟩ := trod_fld Tryz.underlying114 h 0 rfl (m := 3) (by kernel_rfl)
  obtain ⟨m0, e0, wm0⟩ := op41 h0
  have e0 : [c0, c1, c2] = tagMC m0 := e0
  unfold tagMC at e0
  simp only [List.cons.injEq, and_true] at e0
  obtain ⟨rfl, rfl, rfl⟩ := e0
  obtain ⟨n1, y1, h1⟩ := trod_fld Tryz.underlying114 h 1 rfl (m := 1) (by kernel_rfl)
  obtain ⟨m1, e1, wm1⟩ := op9 h1
  have e1 : [c3] = [sv m1] := e1
  simp only [List.cons.injEq, and_true] at e1
  obtain rfl := e1
  obtain ⟨n2, y2, h2⟩ := trod_fld Tryz.underlying114 h 2 rfl (m := 1) (by kernel_rfl)
  obtain ⟨m2, e2, wm2⟩ := op2 h2
  have e2 : [c4] = [.int .i64 m2] := e2
  simp only [List.cons.injEq, and_true] at e2
  obtain rfl := e2
  obtain ⟨n3, y3, h3⟩ := trod_fld Tryz.underlying114 h 3 rfl (m := 2) (by kernel_rfl)
  obtain ⟨m3, e3, wm3⟩ := op24 h3
  have e3 : [c5, c6] = stampMC m3 := e3
  unfold stampMC at e3
  simp only [List.cons.injEq, and_true] at e3
  obtain ⟨rfl, rfl⟩ := e3
  exact ⟨⟨m0, m1, m2, m3⟩, rfl, wm0, wm1, wm2, wm3⟩
theorem op33 {H : Type} {enc : TypeId × Value → H} {W : World} {fuel : Nat} {cs : List Value} {x : DataW H × List MemPlace} (h : DataW.trod enc Tryz.prog W 0 (fun _ => true) true fuel 33 cs = some x) : ∃ (m : List PutM) (A : Option Addr) (c : Nat), cs = [.slice A m.length c] ∧ Sld [] W A m.length c 7 (m.flatMap putMC) ∧ (∀ a ∈ m, wf114 a) := by
  obtain ⟨A, l, c, h1, h2, h3⟩ := open_sl (ec := putMC) (wf := wf114) Tryz.underlying33 (m := 7) (by kernel_rfl) (by decide) (fun _ => rfl) (fun _ _ _ h => op114 h) h
  exact ⟨l, A, c, h1, h2, h3⟩
def wf35 (q : MapM) : Prop := (∀ a ∈ q.puts, wf114 a) ∧ (∀ a ∈ q.gone, wf41 a)
theorem op35 {H : Type} {enc : TypeId × Value → H} {W : World} {fuel : Nat} {cs : List Value} {x : DataW H × List MemPlace} (h : DataW.trod enc Tryz.prog W 0 (fun _ => true) true fuel 35 cs = some x) : ∃ (m : MapM) (Am_puts : Option Addr) (cm_puts : Nat) (Am_gone : Option Addr) (cm_gone : Nat), cs = [.slice Am_puts m.puts.length cm_puts, .slice Am_gone m.gone.length cm_gone] ∧ Sld [] W Am_puts m.puts.length cm_puts 7 (m.puts.flatMap putMC) ∧ Sld [] W Am_gone m.gone.length cm_gone 3 (m.gone.flatMap tagMC) ∧ wf35 m := by
  have hl := trod_len Tryz.underlying35 (m := 2) (by kernel_rfl) h
  obtain ⟨c0, c1, rfl⟩ : ∃ c0 c1, cs = [c0, c1] := by
    match cs, hl with
    | [c0, c1], _ => exact ⟨c0, c1, rfl⟩
  obtain ⟨n0, y0, h0⟩ := trod_fld Tryz.underlying35 h 0 rfl (m := 1) (by kernel_rfl)
  obtain ⟨m0, Am0, cm0, e0, sm0, wm0⟩ := op33 h0
  have e0 : [c0] = [.slice Am0 m0.length cm0] := e0
  simp only [List.cons.injEq, and_true] at e0
  obtain rfl := e0
  obtain ⟨n1, y1, h1⟩ := trod_fld Tryz.underlying35 h 1 rfl (m := 1) (by kernel_rfl)
  obtain ⟨m1, Am1, cm1, e1, sm1, wm1⟩ := op30 h1
  have e1 : [c1] = [.slice Am1 m1.length cm1] := e1
  simp only [List.cons.injEq, and_true] at e1
  obtain rfl := e1
  exact ⟨⟨m0, m1⟩, Am0, cm0, Am1, cm1, rfl, sm0, sm1, ⟨wm0, wm1⟩⟩
def wf37 (q : ObjM) : Prop := wf3 q.kind ∧ wf26 q.reg ∧ wf28 q.num ∧ wf32 q.setF ∧ wf35 q.map
theorem op37 {H : Type} {enc : TypeId × Value → H} {W : World} {fuel : Nat} {cs : List Value} {x : DataW H × List MemPlace} (h : DataW.trod enc Tryz.prog W 0 (fun _ => true) true fuel 37 cs = some x) : ∃ (m : ObjM) (Am_setF_adds : Option Addr) (cm_setF_adds : Nat) (Am_setF_gone : Option Addr) (cm_setF_gone : Nat) (Am_map_puts : Option Addr) (cm_map_puts : Nat) (Am_map_gone : Option Addr) (cm_map_gone : Nat), cs = [.int .i64 m.kind, .int .i64 m.reg.val, .int .u32 m.reg.atF.time, .int .i64 m.reg.atF.origin, .int .i64 m.num.plus, .int .i64 m.num.minus, .slice Am_setF_adds m.setF.adds.length cm_setF_adds, .slice Am_setF_gone m.setF.gone.length cm_setF_gone, .slice Am_map_puts m.map.puts.length cm_map_puts, .slice Am_map_gone m.map.gone.length cm_map_gone] ∧ Sld [] W Am_setF_adds m.setF.adds.length cm_setF_adds 4 (m.setF.adds.flatMap addMC) ∧ Sld [] W Am_setF_gone m.setF.gone.length cm_setF_gone 3 (m.setF.gone.flatMap tagMC) ∧ Sld [] W Am_map_puts m.map.puts.length cm_map_puts 7 (m.map.puts.flatMap putMC) ∧ Sld [] W Am_map_gone m.map.gone.length cm_map_gone 3 (m.map.gone.flatMap tagMC) ∧ wf37 m := by
  have hl := trod_len Tryz.underlying37 (m := 10) (by kernel_rfl) h
  obtain ⟨c0, c1, c2, c3, c4, c5, c6, c7, c8, c9, rfl⟩ : ∃ c0 c1 c2 c3 c4 c5 c6 c7 c8 c9, cs = [c0, c1, c2, c3, c4, c5, c6, c7, c8, c9] := by
    match cs, hl with
    | [c0, c1, c2, c3, c4, c5, c6, c7, c8, c9], _ => exact ⟨c0, c1, c2, c3, c4, c5, c6, c7, c8, c9, rfl⟩
  obtain ⟨n0, y0, h0⟩ := trod_fld Tryz.underlying37 h 0 rfl (m := 1) (by kernel_rfl)
  obtain ⟨m0, e0, wm0⟩ := op3 h0
  have e0 : [c0] = [.int .i64 m0] := e0
  simp only [List.cons.injEq, and_true] at e0
  obtain rfl := e0
  obtain ⟨n1, y1, h1⟩ := trod_fld Tryz.underlying37 h 1 rfl (m := 3) (by kernel_rfl)
  obtain ⟨m1, e1, wm1⟩ := op26 h1
  have e1 : [c1, c2, c3] = regMC m1 := e1
  unfold regMC at e1
  simp only [List.cons.injEq, and_true] at e1
  obtain ⟨rfl, rfl, rfl⟩ := e1
  obtain ⟨n2, y2, h2⟩ := trod_fld Tryz.underlying37 h 2 rfl (m := 2) (by kernel_rfl)
  obtain ⟨m2, e2, wm2⟩ := op28 h2
  have e2 : [c4, c5] = numMC m2 := e2
  unfold numMC at e2
  simp only [List.cons.injEq, and_true] at e2
  obtain ⟨rfl, rfl⟩ := e2
  obtain ⟨n3, y3, h3⟩ := trod_fld Tryz.underlying37 h 3 rfl (m := 2) (by kernel_rfl)
  obtain ⟨m3, Am3_adds, cm3_adds, Am3_gone, cm3_gone, e3, sm3_adds, sm3_gone, wm3⟩ := op32 h3
  have e3 : [c6, c7] = [.slice Am3_adds m3.adds.length cm3_adds, .slice Am3_gone m3.gone.length cm3_gone] := e3
  simp only [List.cons.injEq, and_true] at e3
  obtain ⟨rfl, rfl⟩ := e3
  obtain ⟨n4, y4, h4⟩ := trod_fld Tryz.underlying37 h 4 rfl (m := 2) (by kernel_rfl)
  obtain ⟨m4, Am4_puts, cm4_puts, Am4_gone, cm4_gone, e4, sm4_puts, sm4_gone, wm4⟩ := op35 h4
  have e4 : [c8, c9] = [.slice Am4_puts m4.puts.length cm4_puts, .slice Am4_gone m4.gone.length cm4_gone] := e4
  simp only [List.cons.injEq, and_true] at e4
  obtain ⟨rfl, rfl⟩ := e4
  exact ⟨⟨m0, m1, m2, m3, m4⟩, Am3_adds, cm3_adds, Am3_gone, cm3_gone, Am4_puts, cm4_puts, Am4_gone, cm4_gone, rfl, sm3_adds, sm3_gone, sm4_puts, sm4_gone, ⟨wm0, wm1, wm2, wm3, wm4⟩⟩
def wf43 (q : EffectM) : Prop := wf3 q.act ∧ wf9 q.name ∧ wf2 q.val ∧ wf41 q.tag ∧ wf24 q.atF ∧ (∀ a ∈ q.tags, wf41 a)
theorem op43 {H : Type} {enc : TypeId × Value → H} {W : World} {fuel : Nat} {cs : List Value} {x : DataW H × List MemPlace} (h : DataW.trod enc Tryz.prog W 0 (fun _ => true) true fuel 43 cs = some x) : ∃ (m : EffectM) (Am_tags : Option Addr) (cm_tags : Nat), cs = [.int .i64 m.act, sv m.name, .int .i64 m.val, .int .i64 m.tag.id.origin, .int .u32 m.tag.id.seq, .int .i64 m.tag.n, .int .u32 m.atF.time, .int .i64 m.atF.origin, .slice Am_tags m.tags.length cm_tags] ∧ Sld [] W Am_tags m.tags.length cm_tags 3 (m.tags.flatMap tagMC) ∧ wf43 m := by
  have hl := trod_len Tryz.underlying43 (m := 9) (by kernel_rfl) h
  obtain ⟨c0, c1, c2, c3, c4, c5, c6, c7, c8, rfl⟩ : ∃ c0 c1 c2 c3 c4 c5 c6 c7 c8, cs = [c0, c1, c2, c3, c4, c5, c6, c7, c8] := by
    match cs, hl with
    | [c0, c1, c2, c3, c4, c5, c6, c7, c8], _ => exact ⟨c0, c1, c2, c3, c4, c5, c6, c7, c8, rfl⟩
  obtain ⟨n0, y0, h0⟩ := trod_fld Tryz.underlying43 h 0 rfl (m := 1) (by kernel_rfl)
  obtain ⟨m0, e0, wm0⟩ := op3 h0
  have e0 : [c0] = [.int .i64 m0] := e0
  simp only [List.cons.injEq, and_true] at e0
  obtain rfl := e0
  obtain ⟨n1, y1, h1⟩ := trod_fld Tryz.underlying43 h 1 rfl (m := 1) (by kernel_rfl)
  obtain ⟨m1, e1, wm1⟩ := op9 h1
  have e1 : [c1] = [sv m1] := e1
  simp only [List.cons.injEq, and_true] at e1
  obtain rfl := e1
  obtain ⟨n2, y2, h2⟩ := trod_fld Tryz.underlying43 h 2 rfl (m := 1) (by kernel_rfl)
  obtain ⟨m2, e2, wm2⟩ := op2 h2
  have e2 : [c2] = [.int .i64 m2] := e2
  simp only [List.cons.injEq, and_true] at e2
  obtain rfl := e2
  obtain ⟨n3, y3, h3⟩ := trod_fld Tryz.underlying43 h 3 rfl (m := 3) (by kernel_rfl)
  obtain ⟨m3, e3, wm3⟩ := op41 h3
  have e3 : [c3, c4, c5] = tagMC m3 := e3
  unfold tagMC at e3
  simp only [List.cons.injEq, and_true] at e3
  obtain ⟨rfl, rfl, rfl⟩ := e3
  obtain ⟨n4, y4, h4⟩ := trod_fld Tryz.underlying43 h 4 rfl (m := 2) (by kernel_rfl)
  obtain ⟨m4, e4, wm4⟩ := op24 h4
  have e4 : [c6, c7] = stampMC m4 := e4
  unfold stampMC at e4
  simp only [List.cons.injEq, and_true] at e4
  obtain ⟨rfl, rfl⟩ := e4
  obtain ⟨n5, y5, h5⟩ := trod_fld Tryz.underlying43 h 5 rfl (m := 1) (by kernel_rfl)
  obtain ⟨m5, Am5, cm5, e5, sm5, wm5⟩ := op30 h5
  have e5 : [c8] = [.slice Am5 m5.length cm5] := e5
  simp only [List.cons.injEq, and_true] at e5
  obtain rfl := e5
  exact ⟨⟨m0, m1, m2, m3, m4, m5⟩, Am5, cm5, rfl, sm5, ⟨wm0, wm1, wm2, wm3, wm4, wm5⟩⟩
def wf45 (q : A8u32M) : Prop := wf22 q.e0 ∧ wf22 q.e1 ∧ wf22 q.e2 ∧ wf22 q.e3 ∧ wf22 q.e4 ∧ wf22 q.e5 ∧ wf22 q.e6 ∧ wf22 q.e7
theorem op45 {H : Type} {enc : TypeId × Value → H} {W : World} {fuel : Nat} {cs : List Value} {x : DataW H × List MemPlace} (h : DataW.trod enc Tryz.prog W 0 (fun _ => true) true fuel 45 cs = some x) : ∃ m : A8u32M, cs = a8u32C m ∧ wf45 m := by
  have hl := trod_lenA Tryz.underlying45 (m := 8) (by kernel_rfl) h
  obtain ⟨c0, c1, c2, c3, c4, c5, c6, c7, rfl⟩ : ∃ c0 c1 c2 c3 c4 c5 c6 c7, cs = [c0, c1, c2, c3, c4, c5, c6, c7] := by
    match cs, hl with
    | [c0, c1, c2, c3, c4, c5, c6, c7], _ => exact ⟨c0, c1, c2, c3, c4, c5, c6, c7, rfl⟩
  obtain ⟨n0, y0, h0⟩ := trod_el Tryz.underlying45 h (by kernel_rfl) 0 (by decide)
  obtain ⟨m0, e0, w0⟩ := op22 h0
  have e0 : [c0] = [.int .u32 m0] := e0
  simp only [List.cons.injEq, and_true] at e0
  obtain rfl := e0
  obtain ⟨n1, y1, h1⟩ := trod_el Tryz.underlying45 h (by kernel_rfl) 1 (by decide)
  obtain ⟨m1, e1, w1⟩ := op22 h1
  have e1 : [c1] = [.int .u32 m1] := e1
  simp only [List.cons.injEq, and_true] at e1
  obtain rfl := e1
  obtain ⟨n2, y2, h2⟩ := trod_el Tryz.underlying45 h (by kernel_rfl) 2 (by decide)
  obtain ⟨m2, e2, w2⟩ := op22 h2
  have e2 : [c2] = [.int .u32 m2] := e2
  simp only [List.cons.injEq, and_true] at e2
  obtain rfl := e2
  obtain ⟨n3, y3, h3⟩ := trod_el Tryz.underlying45 h (by kernel_rfl) 3 (by decide)
  obtain ⟨m3, e3, w3⟩ := op22 h3
  have e3 : [c3] = [.int .u32 m3] := e3
  simp only [List.cons.injEq, and_true] at e3
  obtain rfl := e3
  obtain ⟨n4, y4, h4⟩ := trod_el Tryz.underlying45 h (by kernel_rfl) 4 (by decide)
  obtain ⟨m4, e4, w4⟩ := op22 h4
  have e4 : [c4] = [.int .u32 m4] := e4
  simp only [List.cons.injEq, and_true] at e4
  obtain rfl := e4
  obtain ⟨n5, y5, h5⟩ := trod_el Tryz.underlying45 h (by kernel_rfl) 5 (by decide)
  obtain ⟨m5, e5, w5⟩ := op22 h5
  have e5 : [c5] = [.int .u32 m5] := e5
  simp only [List.cons.injEq, and_true] at e5
  obtain rfl := e5
  obtain ⟨n6, y6, h6⟩ := trod_el Tryz.underlying45 h (by kernel_rfl) 6 (by decide)
  obtain ⟨m6, e6, w6⟩ := op22 h6
  have e6 : [c6] = [.int .u32 m6] := e6
  simp only [List.cons.injEq, and_true] at e6
  obtain rfl := e6
  obtain ⟨n7, y7, h7⟩ := trod_el Tryz.underlying45 h (by kernel_rfl) 7 (by decide)
  obtain ⟨m7, e7, w7⟩ := op22 h7
  have e7 : [c7] = [.int .u32 m7] := e7
  simp only [List.cons.injEq, and_true] at e7
  obtain rfl := e7
  exact ⟨⟨m0, m1, m2, m3, m4, m5, m6, m7⟩, rfl, w0, w1, w2, w3, w4, w5, w6, w7⟩
set_option maxRecDepth 100000 in
theorem objApplies_walk (W : World) (args : Array Value) (h : ArgsOk Tryz.f3 W args) : Fn Tryz.prog 3 args.toList W fun v w' => v = .bool true ∧ Fr [] W w' := by
  obtain ⟨H, enc, base, ds, p, hval, hA, _⟩ := h
  rw [Tryz.params3] at hA hval
  obtain ⟨v0, vs0, d0, ds0, p0, q0, hargs, rfl, rfl, h0, r0⟩ := trodAll_cons hA
  obtain ⟨v1, vs1, d1, ds1, p1, q1, rfl, rfl, rfl, h1, r1⟩ := trodAll_cons r0
  obtain ⟨v2, vs2, d2, ds2, p2, q2, rfl, rfl, rfl, h2, r2⟩ := trodAll_cons r1
  obtain ⟨rfl, rfl, rfl⟩ := trodAll_nil r2
  obtain rfl : args = #[v0, v1, v2] := by cases args; simp_all
  obtain ⟨fu0, h0⟩ := h0
  obtain ⟨a0, Aa0_setF_adds, ca0_setF_adds, Aa0_setF_gone, ca0_setF_gone, Aa0_map_puts, ca0_map_puts, Aa0_map_gone, ca0_map_gone, e0, sa0_setF_adds, sa0_setF_gone, sa0_map_puts, sa0_map_gone, wa0⟩ := op37 h0
  obtain rfl := agg_val (by rw [Ty.ag_37]; simp) (hval 0 37 v0 rfl rfl) e0
  obtain ⟨fu1, h1⟩ := h1
  obtain ⟨a1, Aa1_tags, ca1_tags, e1, sa1_tags, wa1⟩ := op43 h1
  obtain rfl := agg_val (by rw [Ty.ag_43]; simp) (hval 1 43 v1 rfl rfl) e1
  obtain ⟨fu2, h2⟩ := h2
  obtain ⟨a2, e2, wa2⟩ := op45 h2
  obtain rfl := agg_val (by rw [Ty.ag_45]; simp) (hval 2 45 v2 rfl rfl) e2
  obtain ⟨_, _, _, ⟨u1, u2⟩, ⟨u3, u4⟩⟩ := wa0
  exact objApplies_ok [] W (by simp [Lo]) a0 Aa0_setF_adds ca0_setF_adds Aa0_setF_gone ca0_setF_gone Aa0_map_puts ca0_map_puts Aa0_map_gone ca0_map_gone a1 Aa1_tags ca1_tags a2 sa0_setF_adds sa0_setF_gone sa0_map_puts sa0_map_gone sa1_tags ⟨fun a ha => (u1 a ha).1.1.2, fun t ht => (u2 t ht).1.2⟩ ⟨fun a ha => (u3 a ha).1.1.2, fun t ht => (u4 t ht).1.2⟩ ⟨wa1.2.2.2.1.1.2, fun t ht => (wa1.2.2.2.2.2 t ht).1.2, wa1.2.2.2.2.1.1.1⟩
set_option maxRecDepth 100000 in
theorem objApplies_lifted (os : Os) (started : os.Started) (H : Type) (enc : TypeId × Value → H) :
    ReturnsInHanded {} Tryz.checked os 3 .any (Rows.objAppliesSpec.pre6 enc Tryz.prog Tryz.f3 Rows.objAppliesRow.domain false) (Rows.objAppliesSpec.post enc Tryz.prog Tryz.f3 false true false false) :=
  law_lift Tryz.func3 (by kernel_rfl) rfl rfl Tryz.underlying4 (by kernel_rfl) (fun H ds h => by
    match ds, h with
    | [a0, a1, a2], _ => rfl) objApplies_walk os started H enc
    (ChangeSpec.witness6 (enc := enc) (C := Tryz.checked) false ⟨#[], #[.agg #[.int .i64 0, .int .i64 0, .int .u32 0, .int .i64 0, .int .i64 0, .int .i64 0, .slice none 0 0, .slice none 0 0, .slice none 0 0, .slice none 0 0], .agg #[.int .i64 0, sv [], .int .i64 0, .int .i64 0, .int .u32 0, .int .i64 0, .int .u32 0, .int .i64 0, .slice none 0 0], .agg #[.int .u32 0, .int .u32 0, .int .u32 0, .int .u32 0, .int .u32 0, .int .u32 0, .int .u32 0, .int .u32 0]], []⟩ 8 (by kernel_rfl) (by kernel_rfl) (by kernel_rfl) (by kernel_rfl))
theorem objApplies_holds : Rows.ObjAppliesSaid :=
  OpenClaim.holds_of_wide 3 Tryz.f3 rfl rfl rfl rfl rfl rfl rfl ⟨rfl, rfl, rfl, rfl, rfl⟩ rfl rfl rfl rfl rfl (by kernel_rfl) Tryz.func3 (by kernel_rfl)
    (of_decide_eq_true (by kernel_rfl)) (by unfold Func.isWrapper; first | (rw [if_pos (by decide +kernel)]; kernel_rfl) | (rw [if_neg (by decide +kernel)]; exact ⟨rfl, rfl⟩))
    (fun os started H enc _ => objApplies_lifted os started H enc)
#print axioms objApplies_holds
end Go.Proofs.YtmenpoicgoijcaaGreat

/- Walks printed by gen2.py out of our own specifications: what the functions named below do. -/
import Derived.Test.YtdgllcmlfblelaaGreatDoorSc
import Derived.Test.YtdgllcmlfblelaaGreatDoorBh
import Derived.Test.YtdgllcmlfblelaaGreatDoorOp
import Derived.Test.YtdgllcmlfblelaaGreatDoorLawD
import Derived.LaidLaws
import Derived.LaidHandle
import Derived.ChangeVars
import Derived.Stop.Joined
set_option linter.unusedSimpArgs false
set_option linter.unusedVariables false
namespace Go.Proofs.YtdgllcmlfblelaaGreatDoor
open Go.RowKit


open Go.ChangeShapes Go.WideShapes Go.RowKit
theorem et_ : Tryz.prog.globalNamed "errors.errorType" = some 0 := by kernel_rfl
theorem rt_ : (Tryz.prog.cutTypes.find? (·.1 == "internal/reflectlite.rtype")).map (·.2) = some 142 := by kernel_rfl
theorem oneRow_ : ((List.range 189).filter fun t => Tryz.prog.rowNamed t [101, 114, 114, 111, 114]) = [65] := by kernel_rfl
theorem size_ : Tryz.prog.types.size = 189 := by kernel_rfl
/-- What the condition gives: the cell of errors.errorType. -/
theorem handle_of_laid {W : World} (h : laidMetH Tryz.prog Rows.objBytesRow.laid W) : W.cell? ⟨0, 0, none⟩ = some (.iface 142 (.agg #[.pointer (some ⟨1, 65, none⟩)])) := by
  have h' : laidMet Tryz.prog [] W ∧ handlesMet Tryz.prog Rows.objBytesRow.laid W := h
  obtain ⟨name, u, ty, e1, e2, e3, e4, e5⟩ := h'.2 _ (List.mem_singleton.2 rfl)
  have en : name = [101, 114, 114, 111, 114] := (Option.some.inj e1).symm
  subst en
  obtain rfl := Option.some.inj (rt_.symm.trans e2)
  have hm : ty ∈ (List.range 189).filter fun t => Tryz.prog.rowNamed t [101, 114, 114, 111, 114] := List.mem_filter.2 ⟨List.mem_range.2 (by rw [← size_]; exact e3), e4⟩
  rw [oneRow_] at hm
  obtain rfl := List.mem_singleton.1 hm
  have hh : typeHandle Tryz.prog 65 = .pointer (some ⟨1, 65, none⟩) := by kernel_rfl
  rw [hh] at e5
  simpa using World.var?_cell et_ e5 0
noncomputable def laidWorld (os : Os) : World :=
  let w0 := World.holding Tryz.prog os ⟨#[], #[], []⟩
  { w0 with heap := w0.heap.modify 0 fun
      | .cells _ t frozen => .cells #[.iface 142 (.agg #[.pointer (some ⟨1, 65, none⟩)])] t frozen
      | o => o }
theorem laidWorld_met (os : Os) (args : Array Value) : laidMetH Tryz.prog Rows.objBytesRow.laid ((laidWorld os).forCall (fun _ _ => 0) ⟨#[], args, []⟩).memory :=
  laidMetH_of_parts (laidMet_nil _ _) (by kernel_rfl)

open Go.ChangeShapes Go.WideShapes Go.ChangeAt Go.RowKit Go.Joins
def wf3 (q : Int) : Prop := -9223372036854775808 ≤ q ∧ q ≤ 9223372036854775807
set_option maxRecDepth 20000 in
theorem op3 {H : Type} {enc : TypeId × Value → H} {W : World} {fuel : Nat} {cs : List Value} {x : DataW H × List MemPlace} (h : DataW.trod enc Tryz.prog W 0 (fun _ => true) true fuel 3 cs = some x) : ∃ m : Int, cs = [.int .i64 m] ∧ wf3 m := by
  obtain ⟨q, e, _, w0⟩ := DataW.trod_int Tryz.underlying3 h
  have := bounds_i64 w0
  exact ⟨q, e, by unfold wf3; omega⟩
def wf9 (q : List UInt8) : Prop := q.length ≤ 9223372036854775807
set_option maxRecDepth 20000 in
theorem op9 {H : Type} {enc : TypeId × Value → H} {W : World} {fuel : Nat} {cs : List Value} {x : DataW H × List MemPlace} (h : DataW.trod enc Tryz.prog W 0 (fun _ => true) true fuel 9 cs = some x) : ∃ m : List UInt8, cs = [sv m] ∧ wf9 m := by
  obtain ⟨s0, e, _, hs⟩ := DataW.trod_string Tryz.underlying9 h
  obtain ⟨l, rfl⟩ := str_list s0
  exact ⟨l, e, mlen_le (by simpa [ByteArray.size] using hs)⟩
def wf2 (q : Int) : Prop := -9223372036854775808 ≤ q ∧ q ≤ 9223372036854775807
set_option maxRecDepth 20000 in
theorem op2 {H : Type} {enc : TypeId × Value → H} {W : World} {fuel : Nat} {cs : List Value} {x : DataW H × List MemPlace} (h : DataW.trod enc Tryz.prog W 0 (fun _ => true) true fuel 2 cs = some x) : ∃ m : Int, cs = [.int .i64 m] ∧ wf2 m := by
  obtain ⟨q, e, _, w0⟩ := DataW.trod_int Tryz.underlying2 h
  have := bounds_i64 w0
  exact ⟨q, e, by unfold wf2; omega⟩
def wf22 (q : Int) : Prop := 0 ≤ q ∧ q ≤ 4294967295
set_option maxRecDepth 20000 in
theorem op22 {H : Type} {enc : TypeId × Value → H} {W : World} {fuel : Nat} {cs : List Value} {x : DataW H × List MemPlace} (h : DataW.trod enc Tryz.prog W 0 (fun _ => true) true fuel 22 cs = some x) : ∃ m : Int, cs = [.int .u32 m] ∧ wf22 m := by
  obtain ⟨q, e, _, w0⟩ := DataW.trod_int Tryz.underlying22 h
  have := bounds_u32 w0
  exact ⟨q, e, by unfold wf22; omega⟩
def wf24 (q : IdM) : Prop := wf3 q.origin ∧ wf22 q.seq
set_option maxRecDepth 20000 in
theorem op24 {H : Type} {enc : TypeId × Value → H} {W : World} {fuel : Nat} {cs : List Value} {x : DataW H × List MemPlace} (h : DataW.trod enc Tryz.prog W 0 (fun _ => true) true fuel 24 cs = some x) : ∃ m : IdM, cs = idMC m ∧ wf24 m := by
  have hl := trod_len Tryz.underlying24 (m := 2) (by kernel_rfl) h
  obtain ⟨c0, c1, rfl⟩ : ∃ c0 c1, cs = [c0, c1] := by
    match cs, hl with
    | [c0, c1], _ => exact ⟨c0, c1, rfl⟩
  obtain ⟨n0, y0, h0⟩ := trod_fld Tryz.underlying24 h 0 rfl (m := 1) (by kernel_rfl)
  obtain ⟨m0, e0, wm0⟩ := op3 h0
  have e0 : [c0] = [.int .i64 m0] := e0
  simp only [List.cons.injEq, and_true] at e0
  obtain rfl := e0
  obtain ⟨n1, y1, h1⟩ := trod_fld Tryz.underlying24 h 1 rfl (m := 1) (by kernel_rfl)
  obtain ⟨m1, e1, wm1⟩ := op22 h1
  have e1 : [c1] = [.int .u32 m1] := e1
  simp only [List.cons.injEq, and_true] at e1
  obtain rfl := e1
  exact ⟨⟨m0, m1⟩, rfl, wm0, wm1⟩
def wf26 (q : TagM) : Prop := wf24 q.id ∧ wf3 q.n
set_option maxRecDepth 20000 in
theorem op26 {H : Type} {enc : TypeId × Value → H} {W : World} {fuel : Nat} {cs : List Value} {x : DataW H × List MemPlace} (h : DataW.trod enc Tryz.prog W 0 (fun _ => true) true fuel 26 cs = some x) : ∃ m : TagM, cs = tagMC m ∧ wf26 m := by
  have hl := trod_len Tryz.underlying26 (m := 3) (by kernel_rfl) h
  obtain ⟨c0, c1, c2, rfl⟩ : ∃ c0 c1 c2, cs = [c0, c1, c2] := by
    match cs, hl with
    | [c0, c1, c2], _ => exact ⟨c0, c1, c2, rfl⟩
  obtain ⟨n0, y0, h0⟩ := trod_fld Tryz.underlying26 h 0 rfl (m := 2) (by kernel_rfl)
  obtain ⟨m0, e0, wm0⟩ := op24 h0
  have e0 : [c0, c1] = idMC m0 := e0
  unfold idMC at e0
  simp only [List.cons.injEq, and_true] at e0
  obtain ⟨rfl, rfl⟩ := e0
  obtain ⟨n1, y1, h1⟩ := trod_fld Tryz.underlying26 h 1 rfl (m := 1) (by kernel_rfl)
  obtain ⟨m1, e1, wm1⟩ := op3 h1
  have e1 : [c2] = [.int .i64 m1] := e1
  simp only [List.cons.injEq, and_true] at e1
  obtain rfl := e1
  exact ⟨⟨m0, m1⟩, rfl, wm0, wm1⟩
def wf28 (q : StampM) : Prop := wf22 q.time ∧ wf3 q.origin
set_option maxRecDepth 20000 in
theorem op28 {H : Type} {enc : TypeId × Value → H} {W : World} {fuel : Nat} {cs : List Value} {x : DataW H × List MemPlace} (h : DataW.trod enc Tryz.prog W 0 (fun _ => true) true fuel 28 cs = some x) : ∃ m : StampM, cs = stampMC m ∧ wf28 m := by
  have hl := trod_len Tryz.underlying28 (m := 2) (by kernel_rfl) h
  obtain ⟨c0, c1, rfl⟩ : ∃ c0 c1, cs = [c0, c1] := by
    match cs, hl with
    | [c0, c1], _ => exact ⟨c0, c1, rfl⟩
  obtain ⟨n0, y0, h0⟩ := trod_fld Tryz.underlying28 h 0 rfl (m := 1) (by kernel_rfl)
  obtain ⟨m0, e0, wm0⟩ := op22 h0
  have e0 : [c0] = [.int .u32 m0] := e0
  simp only [List.cons.injEq, and_true] at e0
  obtain rfl := e0
  obtain ⟨n1, y1, h1⟩ := trod_fld Tryz.underlying28 h 1 rfl (m := 1) (by kernel_rfl)
  obtain ⟨m1, e1, wm1⟩ := op3 h1
  have e1 : [c1] = [.int .i64 m1] := e1
  simp only [List.cons.injEq, and_true] at e1
  obtain rfl := e1
  exact ⟨⟨m0, m1⟩, rfl, wm0, wm1⟩
set_option maxRecDepth 20000 in
theorem op29 {H : Type} {enc : TypeId × Value → H} {W : World} {fuel : Nat} {cs : List Value} {x : DataW H × List MemPlace} (h : DataW.trod enc Tryz.prog W 0 (fun _ => true) true fuel 29 cs = some x) : ∃ (m : List TagM) (A : Option Addr) (c : Nat), cs = [.slice A m.length c] ∧ Sld [] W A m.length c 3 (m.flatMap tagMC) ∧ (∀ a ∈ m, wf26 a) := by
  obtain ⟨A, l, c, h1, h2, h3⟩ := open_sl (ec := tagMC) (wf := wf26) Tryz.underlying29 (m := 3) (by kernel_rfl) (by decide) (fun _ => rfl) (fun _ _ _ h => op26 h) h
  exact ⟨l, A, c, h1, h2, h3⟩
def wf31 (q : EffectM) : Prop := wf3 q.act ∧ wf9 q.name ∧ wf2 q.val ∧ wf26 q.tag ∧ wf28 q.atF ∧ (∀ a ∈ q.tags, wf26 a)
set_option maxRecDepth 20000 in
theorem op31 {H : Type} {enc : TypeId × Value → H} {W : World} {fuel : Nat} {cs : List Value} {x : DataW H × List MemPlace} (h : DataW.trod enc Tryz.prog W 0 (fun _ => true) true fuel 31 cs = some x) : ∃ (m : EffectM) (Am_tags : Option Addr) (cm_tags : Nat), cs = [.int .i64 m.act, sv m.name, .int .i64 m.val, .int .i64 m.tag.id.origin, .int .u32 m.tag.id.seq, .int .i64 m.tag.n, .int .u32 m.atF.time, .int .i64 m.atF.origin, .slice Am_tags m.tags.length cm_tags] ∧ Sld [] W Am_tags m.tags.length cm_tags 3 (m.tags.flatMap tagMC) ∧ wf31 m := by
  have hl := trod_len Tryz.underlying31 (m := 9) (by kernel_rfl) h
  obtain ⟨c0, c1, c2, c3, c4, c5, c6, c7, c8, rfl⟩ : ∃ c0 c1 c2 c3 c4 c5 c6 c7 c8, cs = [c0, c1, c2, c3, c4, c5, c6, c7, c8] := by
    match cs, hl with
    | [c0, c1, c2, c3, c4, c5, c6, c7, c8], _ => exact ⟨c0, c1, c2, c3, c4, c5, c6, c7, c8, rfl⟩
  obtain ⟨n0, y0, h0⟩ := trod_fld Tryz.underlying31 h 0 rfl (m := 1) (by kernel_rfl)
  obtain ⟨m0, e0, wm0⟩ := op3 h0
  have e0 : [c0] = [.int .i64 m0] := e0
  simp only [List.cons.injEq, and_true] at e0
  obtain rfl := e0
  obtain ⟨n1, y1, h1⟩ := trod_fld Tryz.underlying31 h 1 rfl (m := 1) (by kernel_rfl)
  obtain ⟨m1, e1, wm1⟩ := op9 h1
  have e1 : [c1] = [sv m1] := e1
  simp only [List.cons.injEq, and_true] at e1
  obtain rfl := e1
  obtain ⟨n2, y2, h2⟩ := trod_fld Tryz.underlying31 h 2 rfl (m := 1) (by kernel_rfl)
  obtain ⟨m2, e2, wm2⟩ := op2 h2
  have e2 : [c2] = [.int .i64 m2] := e2
  simp only [List.cons.injEq, and_true] at e2
  obtain rfl := e2
  obtain ⟨n3, y3, h3⟩ := trod_fld Tryz.underlying31 h 3 rfl (m := 3) (by kernel_rfl)
  obtain ⟨m3, e3, wm3⟩ := op26 h3
  have e3 : [c3, c4, c5] = tagMC m3 := e3
  unfold tagMC at e3
  simp only [List.cons.injEq, and_true] at e3
  obtain ⟨rfl, rfl, rfl⟩ := e3
  obtain ⟨n4, y4, h4⟩ := trod_fld Tryz.underlying31 h 4 rfl (m := 2) (by kernel_rfl)
  obtain ⟨m4, e4, wm4⟩ := op28 h4
  have e4 : [c6, c7] = stampMC m4 := e4
  unfold stampMC at e4
  simp only [List.cons.injEq, and_true] at e4
  obtain ⟨rfl, rfl⟩ := e4
  obtain ⟨n5, y5, h5⟩ := trod_fld Tryz.underlying31 h 5 rfl (m := 1) (by kernel_rfl)
  obtain ⟨m5, Am5, cm5, e5, sm5, wm5⟩ := op29 h5
  have e5 : [c8] = [.slice Am5 m5.length cm5] := e5
  simp only [List.cons.injEq, and_true] at e5
  obtain rfl := e5
  exact ⟨⟨m0, m1, m2, m3, m4, m5⟩, Am5, cm5, rfl, sm5, ⟨wm0, wm1, wm2, wm3, wm4, wm5⟩⟩
set_option maxRecDepth 100000 in
theorem objBytes_walk (W : World) (args : Array Value) (h : ArgsOk Tryz.f3 W args) (hsh : W.ShapedOpen Tryz.prog) (hL : laidMetH Tryz.prog Rows.objBytesRow.laid W) : Fn Tryz.prog 3 args.toList W fun v w' => v = .bool true ∧ Fr [] W w' := by
  obtain ⟨H, enc, base, ds, p, hval, hA, _⟩ := h
  rw [Tryz.params3] at hA hval
  obtain ⟨v0, vs0, d0, ds0, p0, q0, hargs, rfl, rfl, h0, r0⟩ := trodAll_cons hA
  obtain ⟨v1, vs1, d1, ds1, p1, q1, rfl, rfl, rfl, h1, r1⟩ := trodAll_cons r0
  obtain ⟨rfl, rfl, rfl⟩ := trodAll_nil r1
  obtain rfl : args = #[v0, v1] := by cases args; simp_all
  obtain ⟨fu0, h0⟩ := h0
  obtain ⟨a0, Aa0_tags, ca0_tags, e0, sa0_tags, wa0⟩ := op31 h0
  obtain rfl := agg_val (by rw [Ty.ag_31]; simp) (hval 0 31 v0 rfl rfl) e0
  obtain ⟨fu1, h1⟩ := h1
  obtain ⟨a1, e1, wa1⟩ := op9 h1
  obtain rfl := str_val Tryz.underlying9 (hval 1 9 v1 rfl rfl) e1
  exact objBytes_ok [] W (by simp [Lo]) a0 Aa0_tags ca0_tags a1 sa0_tags (handle_of_laid hL) ⟨wa0.2.2.2.1.1.2, fun t ht => (wa0.2.2.2.2.2 t ht).1.2, wa0.2.2.2.2.1.1.1⟩ wa0.2.2.1
set_option maxRecDepth 100000 in
theorem objBytes_lifted (os : Os) (started : os.Started) (H : Type) (enc : TypeId × Value → H) :
    ReturnsInHanded {} Tryz.checked os 3 .any (fun w args => (Rows.objBytesSpec.pre enc Tryz.prog Tryz.f3 Rows.objBytesRow.domain false w args ∧ laidMetH Tryz.prog Rows.objBytesRow.laid w) ∧ sizedMet enc Tryz.prog Tryz.f3 (OpenSpec.ofChange Rows.objBytesSpec) false w args) (Rows.objBytesSpec.post enc Tryz.prog Tryz.f3 false true false false) :=
  law_liftD Tryz.func3 (by kernel_rfl) rfl rfl Tryz.underlying4 (by kernel_rfl) (fun H ds h => by
    match ds, h with
    | [a0, a1], _ => rfl) objBytes_walk os started H enc
    (ChangeSpec.witness_shaped (enc := enc) (C := Tryz.checked) (os := os) (X := fun w _ => laidMetH Tryz.prog Rows.objBytesRow.laid w) false (laidWorld os) #[.agg #[.int .i64 0, sv [], .int .i64 0, .int .i64 0, .int .u32 0, .int .i64 0, .int .u32 0, .int .i64 0, .slice none 0 0], sv []] 8 rfl
      (World.shaped_of_ZipB (by kernel_rfl) (by kernel_rfl)) (by kernel_rfl) (by kernel_rfl) (by kernel_rfl)
      (laidWorld_met os _))
theorem objBytes_said : Rows.ObjBytesSaid :=
  OpenClaim.holds_of_wide 3 Tryz.f3 rfl rfl rfl rfl rfl rfl rfl ⟨rfl, rfl, rfl, rfl, rfl⟩ rfl rfl rfl rfl rfl (by kernel_rfl) Tryz.func3 (by kernel_rfl)
    (of_decide_eq_true (by kernel_rfl)) (by unfold Func.isWrapper; first | (rw [if_pos (by decide +kernel)]; kernel_rfl) | (rw [if_neg (by decide +kernel)]; exact ⟨rfl, rfl⟩))
    (fun os started H enc _ => objBytes_lifted os started H enc)
theorem objBytes_holds : Rows.ObjBytesCardSaid :=
  Claim7.holds_tied_plain_at .later [] Rows.objBytesCard.laidKinds true Rows.objBytesCard.stood.harness Rows.objBytesCard.stood.looks objBytes_said (fun _ h => by cases h) (by kernel_rfl) (fun _ h => by cases h) objBytes_row_tie rfl ⟨rfl, rfl⟩ (by kernel_rfl) rfl
    (fun f fn hf hfn => by
      obtain rfl : f = 3 := Option.some.inj ((show Tryz.prog.funcNamed Rows.objBytesRow.func = some 3 by kernel_rfl).symm.trans hf) |>.symm
      obtain rfl : fn = Tryz.f3 := (Option.some.inj (Tryz.func3.symm.trans hfn)).symm
      exact ⟨by kernel_rfl, fun j t ht => by
        rw [Tryz.params3] at ht
        have hm : t ∈ [31, 9] := by simpa using Array.mem_of_getElem? ht
        have hall : ([31, 9].all fun u => !Tryz.prog.wantsStandIn u) = true := by kernel_rfl
        exact (show Tryz.prog.wantsStandIn t = false by simpa using List.all_eq_true.1 hall t hm)⟩)
    (by kernel_rfl)
#print axioms objBytes_holds

end Go.Proofs.YtdgllcmlfblelaaGreatDoor

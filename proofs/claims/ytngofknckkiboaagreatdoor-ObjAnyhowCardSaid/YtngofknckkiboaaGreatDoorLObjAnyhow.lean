/- Walks printed by gen2.py out of our own specifications: what the functions named below do. -/
import Derived.Test.YtngofknckkiboaaGreatDoorSc
import Derived.Test.YtngofknckkiboaaGreatDoorHY
import Derived.Test.YtngofknckkiboaaGreatDoorOp
import Derived.Test.YtngofknckkiboaaGreatDoorLawD
set_option linter.unusedSimpArgs false
set_option linter.unusedVariables false
namespace Go.Proofs.YtngofknckkiboaaGreatDoor
open Go.RowKit

open Go.ChangeShapes Go.WideShapes Go.ChangeAt Go.RowKit Go.Joins
def wf3 (q : Int) : Prop := -9223372036854775808 ≤ q ∧ q ≤ 9223372036854775807
set_option maxRecDepth 20000 in
theorem op3 {H : Type} {enc : TypeId × Value → H} {W : World} {fuel : Nat} {cs : List Value} {x : DataW H × List MemPlace} (h : DataW.trod enc Tryz.prog W 0 (fun _ => true) true fuel 3 cs = some x) : ∃ m : Int, cs = [.int .i64 m] ∧ wf3 m := by
  obtain ⟨q, e, _, w0⟩ := DataW.trod_int Tryz.underlying3 h
  have := bounds_i64 w0
  exact ⟨q, e, by unfold wf3; omega⟩
def wf9 (q : List UInt8) : Prop := q.length ≤ 9223372036854775807
set_option maxRecDepth 20000 in
theorem op9 {H : Type} {enc : TypeId × Value → H} {W : World} {fuel : Nat} {cs : List Value} {x : DataW H × List MemPlace} (h : DataW.trod enc Tryz.prog W 0 (fun _ => true) true fuel 9 cs = some x) : ∃ m : List UInt8, cs = [sv m] ∧ wf9 m := by
  obtain ⟨s0, e, _, hs⟩ := DataW.trod_string Tryz.underlying9 h
  obtain ⟨l, rfl⟩ := str_list s0
  exact ⟨l, e, mlen_le (by simpa [ByteArray.size] using hs)⟩
def wf2 (q : Int) : Prop := -9223372036854775808 ≤ q ∧ q ≤ 9223372036854775807
set_option maxRecDepth 20000 in
theorem op2 {H : Type} {enc : TypeId × Value → H} {W : World} {fuel : Nat} {cs : List Value} {x : DataW H × List MemPlace} (h : DataW.trod enc Tryz.prog W 0 (fun _ => true) true fuel 2 cs = some x) : ∃ m : Int, cs = [.int .i64 m] ∧ wf2 m := by
  obtain ⟨q, e, _, w0⟩ := DataW.trod_int Tryz.underlying2 h
  have := bounds_i64 w0
  exact ⟨q, e, by unfold wf2; omega⟩
def wf25 (q : Int) : Prop := 0 ≤ q ∧ q ≤ 4294967295
set_option maxRecDepth 20000 in
theorem op25 {H : Type} {enc : TypeId × Value → H} {W : World} {fuel : Nat} {cs : List Value} {x : DataW H × List MemPlace} (h : DataW.trod enc Tryz.prog W 0 (fun _ => true) true fuel 25 cs = some x) : ∃ m : Int, cs = [.int .u32 m] ∧ wf25 m := by
  obtain ⟨q, e, _, w0⟩ := DataW.trod_int Tryz.underlying25 h
  have := bounds_u32 w0
  exact ⟨q, e, by unfold wf25; omega⟩
def wf58 (q : IdM) : Prop := wf3 q.origin ∧ wf25 q.seq
set_option maxRecDepth 20000 in
theorem op58 {H : Type} {enc : TypeId × Value → H} {W : World} {fuel : Nat} {cs : List Value} {x : DataW H × List MemPlace} (h : DataW.trod enc Tryz.prog W 0 (fun _ => true) true fuel 58 cs = some x) : ∃ m : IdM, cs = idMC m ∧ wf58 m := by
  have hl := trod_len Tryz.underlying58 (m := 2) (by kernel_rfl) h
  obtain ⟨c0, c1, rfl⟩ : ∃ c0 c1, cs = [c0, c1] := by
    match cs, hl with
    | [c0, c1], _ => exact ⟨c0, c1, rfl⟩
  obtain ⟨n0, y0, h0⟩ := trod_fld Tryz.underlying58 h 0 rfl (m := 1) (by kernel_rfl)
  obtain ⟨m0, e0, wm0⟩ := op3 h0
  have e0 : [c0] = [.int .i64 m0] := e0
  simp only [List.cons.injEq, and_true] at e0
  obtain rfl := e0
  obtain ⟨n1, y1, h1⟩ := trod_fld Tryz.underlying58 h 1 rfl (m := 1) (by kernel_rfl)
  obtain ⟨m1, e1, wm1⟩ := op25 h1
  have e1 : [c1] = [.int .u32 m1] := e1
  simp only [List.cons.injEq, and_true] at e1
  obtain rfl := e1
  exact ⟨⟨m0, m1⟩, rfl, wm0, wm1⟩
def wf60 (q : TagM) : Prop := wf58 q.id ∧ wf3 q.n
set_option maxRecDepth 20000 in
theorem op60 {H : Type} {enc : TypeId × Value → H} {W : World} {fuel : Nat} {cs : List Value} {x : DataW H × List MemPlace} (h : DataW.trod enc Tryz.prog W 0 (fun _ => true) true fuel 60 cs = some x) : ∃ m : TagM, cs = tagMC m ∧ wf60 m := by
  have hl := trod_len Tryz.underlying60 (m := 3) (by kernel_rfl) h
  obtain ⟨c0, c1, c2, rfl⟩ : ∃ c0 c1 c2, cs = [c0, c1, c2] := by
    match cs, hl with
    | [c0, c1, c2], _ => exact ⟨c0, c1, c2, rfl⟩
  obtain ⟨n0, y0, h0⟩ := trod_fld Tryz.underlying60 h 0 rfl (m := 2) (by kernel_rfl)
  obtain ⟨m0, e0, wm0⟩ := op58 h0
  have e0 : [c0, c1] = idMC m0 := e0
  unfold idMC at e0
  simp only [List.cons.injEq, and_true] at e0
  obtain ⟨rfl, rfl⟩ := e0
  obtain ⟨n1, y1, h1⟩ := trod_fld Tryz.underlying60 h 1 rfl (m := 1) (by kernel_rfl)
  obtain ⟨m1, e1, wm1⟩ := op3 h1
  have e1 : [c2] = [.int .i64 m1] := e1
  simp only [List.cons.injEq, and_true] at e1
  obtain rfl := e1
  exact ⟨⟨m0, m1⟩, rfl, wm0, wm1⟩
def wf27 (q : StampM) : Prop := wf25 q.time ∧ wf3 q.origin
set_option maxRecDepth 20000 in
theorem op27 {H : Type} {enc : TypeId × Value → H} {W : World} {fuel : Nat} {cs : List Value} {x : DataW H × List MemPlace} (h : DataW.trod enc Tryz.prog W 0 (fun _ => true) true fuel 27 cs = some x) : ∃ m : StampM, cs = stampMC m ∧ wf27 m := by
  have hl := trod_len Tryz.underlying27 (m := 2) (by kernel_rfl) h
  obtain ⟨c0, c1, rfl⟩ : ∃ c0 c1, cs = [c0, c1] := by
    match cs, hl with
    | [c0, c1], _ => exact ⟨c0, c1, rfl⟩
  obtain ⟨n0, y0, h0⟩ := trod_fld Tryz.underlying27 h 0 rfl (m := 1) (by kernel_rfl)
  obtain ⟨m0, e0, wm0⟩ := op25 h0
  have e0 : [c0] = [.int .u32 m0] := e0
  simp only [List.cons.injEq, and_true] at e0
  obtain rfl := e0
  obtain ⟨n1, y1, h1⟩ := trod_fld Tryz.underlying27 h 1 rfl (m := 1) (by kernel_rfl)
  obtain ⟨m1, e1, wm1⟩ := op3 h1
  have e1 : [c1] = [.int .i64 m1] := e1
  simp only [List.cons.injEq, and_true] at e1
  obtain rfl := e1
  exact ⟨⟨m0, m1⟩, rfl, wm0, wm1⟩
set_option maxRecDepth 20000 in
theorem op33 {H : Type} {enc : TypeId × Value → H} {W : World} {fuel : Nat} {cs : List Value} {x : DataW H × List MemPlace} (h : DataW.trod enc Tryz.prog W 0 (fun _ => true) true fuel 33 cs = some x) : ∃ (m : List TagM) (A : Option Addr) (c : Nat), cs = [.slice A m.length c] ∧ Sld [] W A m.length c 3 (m.flatMap tagMC) ∧ (∀ a ∈ m, wf60 a) := by
  obtain ⟨A, l, c, h1, h2, h3⟩ := open_sl (ec := tagMC) (wf := wf60) Tryz.underlying33 (m := 3) (by kernel_rfl) (by decide) (fun _ => rfl) (fun _ _ _ h => op60 h) h
  exact ⟨l, A, c, h1, h2, h3⟩
def wf62 (q : EffectM) : Prop := wf3 q.act ∧ wf9 q.name ∧ wf2 q.val ∧ wf60 q.tag ∧ wf27 q.atF ∧ (∀ a ∈ q.tags, wf60 a)
set_option maxRecDepth 20000 in
theorem op62 {H : Type} {enc : TypeId × Value → H} {W : World} {fuel : Nat} {cs : List Value} {x : DataW H × List MemPlace} (h : DataW.trod enc Tryz.prog W 0 (fun _ => true) true fuel 62 cs = some x) : ∃ (m : EffectM) (Am_tags : Option Addr) (cm_tags : Nat), cs = [.int .i64 m.act, sv m.name, .int .i64 m.val, .int .i64 m.tag.id.origin, .int .u32 m.tag.id.seq, .int .i64 m.tag.n, .int .u32 m.atF.time, .int .i64 m.atF.origin, .slice Am_tags m.tags.length cm_tags] ∧ Sld [] W Am_tags m.tags.length cm_tags 3 (m.tags.flatMap tagMC) ∧ wf62 m := by
  have hl := trod_len Tryz.underlying62 (m := 9) (by kernel_rfl) h
  obtain ⟨c0, c1, c2, c3, c4, c5, c6, c7, c8, rfl⟩ : ∃ c0 c1 c2 c3 c4 c5 c6 c7 c8, cs = [c0, c1, c2, c3, c4, c5, c6, c7, c8] := by
    match cs, hl with
    | [c0, c1, c2, c3, c4, c5, c6, c7, c8], _ => exact ⟨c0, c1, c2, c3, c4, c5, c6, c7, c8, rfl⟩
  obtain ⟨n0, y0, h0⟩ := trod_fld Tryz.underlying62 h 0 rfl (m := 1) (by kernel_rfl)
  obtain ⟨m0, e0, wm0⟩ := op3 h0
  have e0 : [c0] = [.int .i64 m0] := e0
  simp only [List.cons.injEq, and_true] at e0
  obtain rfl := e0
  obtain ⟨n1, y1, h1⟩ := trod_fld Tryz.underlying62 h 1 rfl (m := 1) (by kernel_rfl)
  obtain ⟨m1, e1, wm1⟩ := op9 h1
  have e1 : [c1] = [sv m1] := e1
  simp only [List.cons.injEq, and_true] at e1
  obtain rfl := e1
  obtain ⟨n2, y2, h2⟩ := trod_fld Tryz.underlying62 h 2 rfl (m := 1) (by kernel_rfl)
  obtain ⟨m2, e2, wm2⟩ := op2 h2
  have e2 : [c2] = [.int .i64 m2] := e2
  simp only [List.cons.injEq, and_true] at e2
  obtain rfl := e2
  obtain ⟨n3, y3, h3⟩ := trod_fld Tryz.underlying62 h 3 rfl (m := 3) (by kernel_rfl)
  obtain ⟨m3, e3, wm3⟩ := op60 h3
  have e3 : [c3, c4, c5] = tagMC m3 := e3
  unfold tagMC at e3
  simp only [List.cons.injEq, and_true] at e3
  obtain ⟨rfl, rfl, rfl⟩ := e3
  obtain ⟨n4, y4, h4⟩ := trod_fld Tryz.underlying62 h 4 rfl (m := 2) (by kernel_rfl)
  obtain ⟨m4, e4, wm4⟩ := op27 h4
  have e4 : [c6, c7] = stampMC m4 := e4
  unfold stampMC at e4
  simp only [List.cons.injEq, and_true] at e4
  obtain ⟨rfl, rfl⟩ := e4
  obtain ⟨n5, y5, h5⟩ := trod_fld Tryz.underlying62 h 5 rfl (m := 1) (by kernel_rfl)
  obtain ⟨m5, Am5, cm5, e5, sm5, wm5⟩ := op33 h5
  have e5 : [c8] = [.slice Am5 m5.length cm5] := e5
  simp only [List.cons.injEq, and_true] at e5
  obtain rfl := e5
  exact ⟨⟨m0, m1, m2, m3, m4, m5⟩, Am5, cm5, rfl, sm5, ⟨wm0, wm1, wm2, wm3, wm4, wm5⟩⟩
set_option maxRecDepth 20000 in
theorem op22 {H : Type} {enc : TypeId × Value → H} {W : World} {fuel : Nat} {cs : List Value} {x : DataW H × List MemPlace} (h : DataW.trod enc Tryz.prog W 0 (fun _ => true) true fuel 22 cs = some x) : ∃ (m : List EffectMH) (A : Option Addr) (c : Nat), cs = [.slice A m.length c] ∧ Sld [] W A m.length c 9 (m.flatMap effectMHC) ∧ (∀ a ∈ m, efEffectMH.p a [] W) ∧ (∀ a ∈ m, wf62 a.pl) := by
  obtain ⟨A, l, c, h1, h2, h3⟩ := open_sl (ec := effectMHC) (wf := fun a => efEffectMH.p a [] W ∧ wf62 a.pl) Tryz.underlying22 (m := 9) (by kernel_rfl) (by decide) (fun _ => rfl) (fun _ _ _ h => by
      obtain ⟨a, Aa_tags, ca_tags, rfl, sa_tags, wa⟩ := op62 h
      exact ⟨⟨a.act, a.name, a.val, a.tag, a.atF, ⟨Aa_tags, ca_tags, a.tags⟩⟩, rfl, okEffectMH_mk sa_tags, wa⟩) h
  exact ⟨l, A, c, h1, h2, fun a ha => (h3 a ha).1, fun a ha => (h3 a ha).2⟩
set_option maxRecDepth 100000 in
theorem objAnyhow_walk (W : World) (args : Array Value) (h : ArgsOk Tryz.f3 W args) (hsh : W.ShapedOpen Tryz.prog) (hL : laidMetH Tryz.prog Rows.objAnyhowRow.laid W) : Fn Tryz.prog 3 args.toList W fun v w' => v = .bool true ∧ Fr [] W w' := by
  obtain ⟨H, enc, base, ds, p, hval, hA, _⟩ := h
  rw [Tryz.params3] at hA hval
  obtain ⟨v0, vs0, d0, ds0, p0, q0, hargs, rfl, rfl, h0, r0⟩ := trodAll_cons hA
  obtain ⟨v1, vs1, d1, ds1, p1, q1, rfl, rfl, rfl, h1, r1⟩ := trodAll_cons r0
  obtain ⟨rfl, rfl, rfl⟩ := trodAll_nil r1
  obtain rfl : args = #[v0, v1] := by cases args; simp_all
  obtain ⟨fu0, h0⟩ := h0
  obtain ⟨a0, e0, wa0⟩ := op3 h0
  obtain rfl := int_val Tryz.underlying3 (hval 0 3 v0 rfl rfl) e0
  obtain ⟨fu1, h1⟩ := h1
  obtain ⟨a1, Aa1, ca1, e1, sa1, sda1, wa1⟩ := op22 h1
  obtain rfl := sl_val Tryz.underlying22 (hval 1 22 v1 rfl rfl) e1
  obtain ⟨mx, hmx⟩ := Tryz.laysM146.s1_3 W hsh
  exact objAnyhow_ok [] W (by simp [Lo]) a0 a1 Aa1 ca1 sa1 sda1 mx hmx
set_option maxRecDepth 100000 in
theorem objAnyhow_lifted (os : Os) (started : os.Started) (H : Type) (enc : TypeId × Value → H) :
    ReturnsInHanded {} Tryz.checked os 3 .any (fun w args => (Rows.objAnyhowSpec.pre enc Tryz.prog Tryz.f3 Rows.objAnyhowRow.domain false w args ∧ laidMetH Tryz.prog Rows.objAnyhowRow.laid w) ∧ sizedMet enc Tryz.prog Tryz.f3 (OpenSpec.ofChange Rows.objAnyhowSpec) false w args) (Rows.objAnyhowSpec.post enc Tryz.prog Tryz.f3 false true false false) :=
  law_liftD Tryz.func3 (by kernel_rfl) rfl rfl Tryz.underlying4 (by kernel_rfl) (fun H ds h => by
    match ds, h with
    | [a0, a1], _ => rfl) objAnyhow_walk os started H enc
    (ChangeSpec.witness_shaped (enc := enc) (C := Tryz.checked) (os := os) (X := fun w _ => laidMetH Tryz.prog Rows.objAnyhowRow.laid w) false (World.laidAll Tryz.prog os Rows.objAnyhowRow.laid) #[.int .i64 0, .slice none 0 0] 8 (World.laidAll_os _ _ _)
      (World.shaped_of_ZipB (by kernel_rfl) (by kernel_rfl)) (by kernel_rfl) (by kernel_rfl) (by kernel_rfl)
      (by rw [MakeChecks.laidMetH_plain _ _ _ (by kernel_rfl)]; exact laidMet_laidAll _ (by kernel_rfl) (by kernel_rfl)))
theorem objAnyhow_said : Rows.ObjAnyhowSaid :=
  OpenClaim.holds_of_wide 3 Tryz.f3 rfl rfl rfl rfl rfl rfl rfl ⟨rfl, rfl, rfl, rfl, rfl⟩ rfl rfl rfl rfl rfl (by kernel_rfl) Tryz.func3 (by kernel_rfl)
    (of_decide_eq_true (by kernel_rfl)) (by unfold Func.isWrapper; first | (rw [if_pos (by decide +kernel)]; kernel_rfl) | (rw [if_neg (by decide +kernel)]; exact ⟨rfl, rfl⟩))
    (fun os started H enc _ => objAnyhow_lifted os started H enc)
theorem objAnyhow_holds : Rows.ObjAnyhowCardSaid :=
  Claim7.holds_tied_plain_at .later [] Rows.objAnyhowCard.laidKinds true Rows.objAnyhowCard.stood.harness Rows.objAnyhowCard.stood.looks objAnyhow_said (fun _ h => by cases h) (by kernel_rfl) (fun _ h => by cases h) objAnyhow_row_tie rfl ⟨rfl, rfl⟩ (by kernel_rfl) rfl
    (fun f fn hf hfn => by
      obtain rfl : f = 3 := Option.some.inj ((show Tryz.prog.funcNamed Rows.objAnyhowRow.func = some 3 by kernel_rfl).symm.trans hf) |>.symm
      obtain rfl : fn = Tryz.f3 := (Option.some.inj (Tryz.func3.symm.trans hfn)).symm
      exact ⟨by kernel_rfl, fun j t ht => by
        rw [Tryz.params3] at ht
        have hm : t ∈ [3, 22] := by simpa using Array.mem_of_getElem? ht
        have hall : ([3, 22].all fun u => !Tryz.prog.wantsStandIn u) = true := by kernel_rfl
        exact (show Tryz.prog.wantsStandIn t = false by simpa using List.all_eq_true.1 hall t hm)⟩)
    (by kernel_rfl)
#print axioms objAnyhow_holds

end Go.Proofs.YtngofknckkiboaaGreatDoor

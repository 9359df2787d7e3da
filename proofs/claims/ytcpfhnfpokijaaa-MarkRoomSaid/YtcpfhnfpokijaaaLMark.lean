/- The statement MarkRoomSaid: for every number, generation and number the law MarkRoom returns true, and its arguments read afterwards as before. No conditions. -/
import Derived.Test.YtcpfhnfpokijaaaLaw
import Derived.Test.YtcpfhnfpokijaaaOp
import Derived.Test.YtcpfhnfpokijaaaM12
namespace Go.Proofs.Ytcpfhnfpokijaaa
open Go.ChangeShapes Go.WideShapes Go.ChangeAt Go.RowKit Go.Joins

set_option maxRecDepth 100000 in
theorem markRoom_walk (W : World) (args : Array Value) (h : ArgsOk Try.f4 W args) : Fn Try.prog 4 args.toList W fun v w' => v = .bool true ∧ Fr [] W w' := by
  obtain ⟨H, enc, base, ds, p, hval, hA, _⟩ := h
  rw [Try.params4] at hA hval
  obtain ⟨v0, vs0, d0, ds0, p0, q0, hargs, rfl, rfl, h0, r0⟩ := trodAll_cons hA
  obtain ⟨v1, vs1, d1, ds1, p1, q1, rfl, rfl, rfl, h1, r1⟩ := trodAll_cons r0
  obtain ⟨v2, vs2, d2, ds2, p2, q2, rfl, rfl, rfl, h2, r2⟩ := trodAll_cons r1
  obtain ⟨rfl, rfl, rfl⟩ := trodAll_nil r2
  obtain rfl : args = #[v0, v1, v2] := by cases args; simp_all
  obtain ⟨fu0, h0⟩ := h0
  obtain ⟨fu1, h1⟩ := h1
  obtain ⟨fu2, h2⟩ := h2
  obtain ⟨n, e0, _, _⟩ := DataW.trod_int Try.underlying3 h0
  obtain ⟨q, e1, _, w1⟩ := DataW.trod_int Try.underlying32 h1
  obtain ⟨lg, e2, _, _⟩ := DataW.trod_int Try.underlying3 h2
  have b1 := wf_bd_u32 w1
  obtain rfl := int_val Try.underlying3 (hval 0 3 v0 rfl rfl) e0
  obtain rfl := int_val Try.underlying32 (hval 1 32 v1 rfl rfl) e1
  obtain rfl := int_val Try.underlying3 (hval 2 3 v2 rfl rfl) e2
  obtain ⟨frm, rfl⟩ := Int.eq_ofNat_of_zero_le b1.1
  exact markRoom_ok n lg frm (by omega) W

set_option maxRecDepth 100000 in
theorem markRoom_lifted (os : Os) (started : os.Started) (H : Type) (enc : TypeId × Value → H) :
    ReturnsInHanded {} Try.checked os 4 .any (Rows.markRoomSpec.pre6 enc Try.prog Try.f4 Rows.markRoomRow.domain false) (Rows.markRoomSpec.post enc Try.prog Try.f4 false true false false) :=
  law_lift Try.func4 (by kernel_rfl) rfl rfl Try.underlying4 (by kernel_rfl) (fun H ds h => by
    match ds, h with
    | [a, b, c], _ => rfl) markRoom_walk os started H enc
    (ChangeSpec.witness6 (enc := enc) (C := Try.checked) false ⟨#[], #[.int .i64 0, .int .u32 0, .int .i64 0], []⟩ 8 (by kernel_rfl) (by kernel_rfl) (by kernel_rfl) (by kernel_rfl))

theorem markRoom_holds : Rows.MarkRoomSaid :=
  OpenClaim.holds_of_wide 4 Try.f4 rfl rfl rfl rfl rfl rfl rfl ⟨rfl, rfl, rfl, rfl, rfl⟩ rfl rfl rfl rfl rfl (by kernel_rfl) Try.func4 (by kernel_rfl)
    (of_decide_eq_true (by kernel_rfl)) (by unfold Func.isWrapper; first | (rw [if_pos (by decide +kernel)]; kernel_rfl) | (rw [if_neg (by decide +kernel)]; exact ⟨rfl, rfl⟩))
    (fun os started H enc _ => markRoom_lifted os started H enc)
#print axioms markRoom_holds
end Go.Proofs.Ytcpfhnfpokijaaa

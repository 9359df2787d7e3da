/- The statement SectorDoesSaid: for every size and every list of operations the law SectorDoes returns true, and its arguments read afterwards as before. No conditions. -/
import Derived.Test.YtikdpkhcegjmfaaOps
namespace Go.Proofs.Ytikdpkhcegjmfaa
open Go.ChangeShapes Go.WideShapes Go.ChangeAt Go.RowKit Go.Joins

set_option maxRecDepth 100000 in
theorem does_walk (W : World) (args : Array Value) (h : ArgsOk Try.f6 W args) : Fn Try.prog 6 args.toList W fun v w' => v = .bool true ∧ Fr [] W w' := by
  obtain ⟨H, enc, base, ds, p, hval, hA, _⟩ := h
  rw [Try.params6] at hA hval
  obtain ⟨v0, vs0, d0, ds0, p0, q0, hargs, rfl, rfl, h0, r0⟩ := trodAll_cons hA
  obtain ⟨v1, vs1, d1, ds1, p1, q1, rfl, rfl, rfl, h1, r1⟩ := trodAll_cons r0
  obtain ⟨rfl, rfl, rfl⟩ := trodAll_nil r1
  obtain rfl : args = #[v0, v1] := by cases args; simp_all
  obtain ⟨n, rfl, rfl, rfl, _⟩ := open_int Try.underlying3 (hval 0 3 v0 rfl rfl) h0
  obtain ⟨fuel, h1⟩ := h1
  obtain ⟨A, ops, c, e, hrd, hops, hol⟩ := open_ops h1
  obtain rfl := slice_val Try.underlying66 (hval 1 66 v1 rfl rfl) e
  exact sectorDoes_ok n A c ops W hrd hops hol

set_option maxRecDepth 100000 in
theorem does_lifted (os : Os) (started : os.Started) (H : Type) (enc : TypeId × Value → H) :
    ReturnsInHanded {} Try.checked os 6 .any (Rows.sectorDoesSpec.pre6 enc Try.prog Try.f6 Rows.sectorDoesRow.domain false) (Rows.sectorDoesSpec.post enc Try.prog Try.f6 false true false false) :=
  law_lift Try.func6 (by kernel_rfl) rfl rfl Try.underlying4 (by kernel_rfl) (fun H ds h => by
    match ds, h with
    | [a, b], _ => rfl) does_walk os started H enc
    (ChangeSpec.witness6 (enc := enc) (C := Try.checked) false ⟨#[], #[.int .i64 0, .slice none 0 0], []⟩ 8 (by kernel_rfl) (by kernel_rfl) (by kernel_rfl) (by kernel_rfl))

theorem sectorDoes_holds : Rows.SectorDoesSaid :=
  OpenClaim.holds_of_wide 6 Try.f6 rfl rfl rfl rfl rfl rfl rfl ⟨rfl, rfl, rfl, rfl, rfl⟩ rfl rfl rfl rfl rfl (by kernel_rfl) Try.func6 (by kernel_rfl)
    (of_decide_eq_true (by kernel_rfl)) (by unfold Func.isWrapper; first | (rw [if_pos (by decide +kernel)]; kernel_rfl) | (rw [if_neg (by decide +kernel)]; exact ⟨rfl, rfl⟩))
    (fun os started H enc _ => does_lifted os started H enc)
#print axioms sectorDoes_holds
end Go.Proofs.Ytikdpkhcegjmfaa

/- The statement SectorLastsSaid: for every two numbers, two lists of operations and list of numbers the law SectorLasts returns true, and its arguments read afterwards as before. No conditions. -/
import Derived.Test.YtikdpkhcegjmfaaOps
import Derived.Test.YtikdpkhcegjmfaaW18
namespace Go.Proofs.Ytikdpkhcegjmfaa
open Go.ChangeShapes Go.WideShapes Go.ChangeAt Go.RowKit Go.Joins

set_option maxRecDepth 100000 in
theorem lasts_walk (W : World) (args : Array Value) (h : ArgsOk Try.f8 W args) : Fn Try.prog 8 args.toList W fun v w' => v = .bool true ∧ Fr [] W w' := by
  obtain ⟨H, enc, base, ds, p, hval, hA, _⟩ := h
  rw [Try.params8] at hA hval
  obtain ⟨v0, vs0, d0, ds0, p0, q0, hargs, rfl, rfl, h0, r0⟩ := trodAll_cons hA
  obtain ⟨v1, vs1, d1, ds1, p1, q1, rfl, rfl, rfl, h1, r1⟩ := trodAll_cons r0
  obtain ⟨v2, vs2, d2, ds2, p2, q2, rfl, rfl, rfl, h2, r2⟩ := trodAll_cons r1
  obtain ⟨v3, vs3, d3, ds3, p3, q3, rfl, rfl, rfl, h3, r3⟩ := trodAll_cons r2
  obtain ⟨v4, vs4, d4, ds4, p4, q4, rfl, rfl, rfl, h4, r4⟩ := trodAll_cons r3
  obtain ⟨rfl, rfl, rfl⟩ := trodAll_nil r4
  obtain rfl : args = #[v0, v1, v2, v3, v4] := by cases args; simp_all
  obtain ⟨n, rfl, rfl, rfl, _⟩ := open_int Try.underlying3 (hval 0 3 v0 rfl rfl) h0
  obtain ⟨st, rfl, rfl, rfl, _⟩ := open_int Try.underlying3 (hval 3 3 v3 rfl rfl) h3
  obtain ⟨fuel, h1⟩ := h1
  obtain ⟨fuel2, h2⟩ := h2
  obtain ⟨fuel4, h4⟩ := h4
  obtain ⟨A, ops, c, e, hrd, hops, hol⟩ := open_ops h1
  obtain ⟨B, ops2, c2, e2, hrd2, hops2, hol2⟩ := open_ops h2
  obtain ⟨K, ks, kc, e4, hrd4, hkl⟩ := open_intsR h4
  obtain rfl := slice_val Try.underlying66 (hval 1 66 v1 rfl rfl) e
  obtain rfl := slice_val Try.underlying66 (hval 2 66 v2 rfl rfl) e2
  obtain rfl := slice_val Try.underlying73 (hval 4 73 v4 rfl rfl) e4
  exact sectorLasts_ok n st A B K c c2 kc ops ops2 ks W hrd hops hol hrd2 hops2 hol2 hrd4 hkl

set_option maxRecDepth 100000 in
theorem lasts_lifted (os : Os) (started : os.Started) (H : Type) (enc : TypeId × Value → H) :
    ReturnsInHanded {} Try.checked os 8 .any (Rows.sectorLastsSpec.pre6 enc Try.prog Try.f8 Rows.sectorLastsRow.domain false) (Rows.sectorLastsSpec.post enc Try.prog Try.f8 false true false false) :=
  law_lift Try.func8 (by kernel_rfl) rfl rfl Try.underlying4 (by kernel_rfl) (fun H ds h => by
    match ds, h with
    | [a, b, c, d, e], _ => rfl) lasts_walk os started H enc
    (ChangeSpec.witness6 (enc := enc) (C := Try.checked) false ⟨#[], #[.int .i64 0, .slice none 0 0, .slice none 0 0, .int .i64 0, .slice none 0 0], []⟩ 8 (by kernel_rfl) (by kernel_rfl) (by kernel_rfl) (by kernel_rfl))

theorem sectorLasts_holds : Rows.SectorLastsSaid :=
  OpenClaim.holds_of_wide 8 Try.f8 rfl rfl rfl rfl rfl rfl rfl ⟨rfl, rfl, rfl, rfl, rfl⟩ rfl rfl rfl rfl rfl (by kernel_rfl) Try.func8 (by kernel_rfl)
    (of_decide_eq_true (by kernel_rfl)) (by unfold Func.isWrapper; first | (rw [if_pos (by decide +kernel)]; kernel_rfl) | (rw [if_neg (by decide +kernel)]; exact ⟨rfl, rfl⟩))
    (fun os started H enc _ => lasts_lifted os started H enc)
#print axioms sectorLasts_holds
end Go.Proofs.Ytikdpkhcegjmfaa

/- The statement SectorCellsSaid: for every cell and every string the law SectorCells returns true, and its arguments read afterwards as before. No conditions. -/
import Derived.Test.YtikdpkhcegjmfaaW5
import Derived.Test.YtikdpkhcegjmfaaLaw
namespace Go.Proofs.Ytikdpkhcegjmfaa
open Go.ChangeShapes Go.WideShapes Go.ChangeAt Go.RowKit Go.Joins
open Go.ChangeMaps (open_string)

theorem cells25 : Try.prog.cellsOf 25 = 4 := by kernel_rfl

set_option maxRecDepth 100000 in
theorem cells_walk (W : World) (args : Array Value) (h : ArgsOk Try.f3 W args) : Fn Try.prog 3 args.toList W fun v w' => v = .bool true ∧ Fr [] W w' := by
  obtain ⟨H, enc, base, ds, p, hval, hA, _⟩ := h
  rw [Try.params3] at hA hval
  obtain ⟨v0, vs0, d0, ds0, p0, q0, hargs, rfl, rfl, h0, r0⟩ := trodAll_cons hA
  obtain ⟨v1, vs1, d1, ds1, p1, q1, rfl, rfl, rfl, h1, r1⟩ := trodAll_cons r0
  obtain ⟨rfl, rfl, rfl⟩ := trodAll_nil r1
  obtain rfl : args = #[v0, v1] := by cases args; simp_all
  obtain ⟨c0, c1, c2, c3, y0, y1, y2, y3, m, rfl, rfl, rfl, hy0, hy1, hy2, hy3⟩ := open_agg4 Try.underlying25 (by kernel_rfl) cells25 (hval 0 25 _ rfl rfl) h0
  obtain ⟨g, e0, _, w0⟩ := DataW.trod_int Try.underlying22 hy0
  obtain ⟨q, e1, _, w1⟩ := DataW.trod_int Try.underlying23 hy1
  obtain ⟨f, e2, _, w2⟩ := DataW.trod_int Try.underlying5 hy2
  obtain ⟨s0, e3, _, _⟩ := DataW.trod_string Try.underlying9 hy3
  obtain ⟨s, rfl, rfl, rfl, _⟩ := open_string Try.underlying9 (hval 1 9 v1 rfl rfl) h1
  simp only [List.cons.injEq, and_true] at e0 e1 e2 e3
  subst e0 e1 e2 e3
  obtain ⟨dl, rfl⟩ := str_list s0
  obtain ⟨sl, rfl⟩ := str_list s
  have b0 := wf_bd_u16 w0
  have b1 := wf_bd_u32 w1
  have b2 := wf_bd_u8 w2
  exact sectorCells_ok g q f dl sl W b0.1 b0.2 b1.1 b1.2 b2.1 b2.2

set_option maxRecDepth 100000 in
theorem cells_lifted (os : Os) (started : os.Started) (H : Type) (enc : TypeId × Value → H) :
    ReturnsInHanded {} Try.checked os 3 .any (Rows.sectorCellsSpec.pre6 enc Try.prog Try.f3 Rows.sectorCellsRow.domain false) (Rows.sectorCellsSpec.post enc Try.prog Try.f3 false true false false) :=
  law_lift Try.func3 (by kernel_rfl) rfl rfl Try.underlying4 (by kernel_rfl) (fun H ds h => by
    match ds, h with
    | [a, b], _ => rfl) cells_walk os started H enc
    (ChangeSpec.witness6 (enc := enc) (C := Try.checked) false ⟨#[], #[.agg #[.int .u16 0, .int .u32 0, .int .u8 0, .string ⟨#[]⟩], .string ⟨#[]⟩], []⟩ 8 (by kernel_rfl) (by kernel_rfl) (by kernel_rfl) (by kernel_rfl))

theorem sectorCells_holds : Rows.SectorCellsSaid :=
  OpenClaim.holds_of_wide 3 Try.f3 rfl rfl rfl rfl rfl rfl rfl ⟨rfl, rfl, rfl, rfl, rfl⟩ rfl rfl rfl rfl rfl (by kernel_rfl) Try.func3 (by kernel_rfl)
    (of_decide_eq_true (by kernel_rfl)) (by unfold Func.isWrapper; first | (rw [if_pos (by decide +kernel)]; kernel_rfl) | (rw [if_neg (by decide +kernel)]; exact ⟨rfl, rfl⟩))
    (fun os started H enc _ => cells_lifted os started H enc)
#print axioms sectorCells_holds
end Go.Proofs.Ytikdpkhcegjmfaa

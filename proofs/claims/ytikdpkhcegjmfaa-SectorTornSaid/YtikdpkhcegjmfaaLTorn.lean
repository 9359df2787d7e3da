/- The statement SectorTornSaid: for every two cells, bool and number the law SectorTorn returns true, and its arguments read afterwards as before. No conditions. -/
import Derived.Test.YtikdpkhcegjmfaaW11
import Derived.Test.YtikdpkhcegjmfaaLaw
namespace Go.Proofs.Ytikdpkhcegjmfaa
open Go.ChangeShapes Go.WideShapes Go.ChangeAt Go.RowKit Go.Joins

theorem cells_rcell : Try.prog.cellsOf 25 = 4 := by kernel_rfl
set_option maxRecDepth 100000 in
theorem open_cell {H : Type} {enc : TypeId × Value → H} {W : World} {base : Nat} {v : Value} {d : DataW H} {p : List MemPlace} (hv : Value.okWide Try.prog W .any base 25 v) (h : DataW.Trod enc Try.prog W 0 (fun _ => true) true 25 v d p) :
    ∃ (g q f : Int) (l : List UInt8), v = .agg #[.int .u16 g, .int .u32 q, .int .u8 f, sv l] ∧ 0 ≤ g ∧ g < 65536 ∧ 0 ≤ q ∧ q < 4294967296 ∧ 0 ≤ f ∧ f < 256 := by
  obtain ⟨c0, c1, c2, c3, y0, y1, y2, y3, m, rfl, rfl, rfl, hy0, hy1, hy2, hy3⟩ := open_agg4 Try.underlying25 (by kernel_rfl) cells_rcell hv h
  obtain ⟨g, e0, _, w0⟩ := DataW.trod_int Try.underlying22 hy0
  obtain ⟨q, e1, _, w1⟩ := DataW.trod_int Try.underlying23 hy1
  obtain ⟨f, e2, _, w2⟩ := DataW.trod_int Try.underlying5 hy2
  obtain ⟨s0, e3, _, _⟩ := DataW.trod_string Try.underlying9 hy3
  simp only [List.cons.injEq, and_true] at e0 e1 e2 e3
  subst e0 e1 e2 e3
  obtain ⟨dl, rfl⟩ := str_list s0
  have b0 := wf_bd_u16 w0
  have b1 := wf_bd_u32 w1
  have b2 := wf_bd_u8 w2
  exact ⟨g, q, f, dl, rfl, b0.1, b0.2, b1.1, b1.2, b2.1, b2.2⟩

set_option maxRecDepth 100000 in
theorem torn_walk (W : World) (args : Array Value) (h : ArgsOk Try.f7 W args) : Fn Try.prog 7 args.toList W fun v w' => v = .bool true ∧ Fr [] W w' := by
  obtain ⟨H, enc, base, ds, p, hval, hA, _⟩ := h
  rw [Try.params7] at hA hval
  obtain ⟨v0, vs0, d0, ds0, p0, q0, hargs, rfl, rfl, h0, r0⟩ := trodAll_cons hA
  obtain ⟨v1, vs1, d1, ds1, p1, q1, rfl, rfl, rfl, h1, r1⟩ := trodAll_cons r0
  obtain ⟨v2, vs2, d2, ds2, p2, q2, rfl, rfl, rfl, h2, r2⟩ := trodAll_cons r1
  obtain ⟨v3, vs3, d3, ds3, p3, q3, rfl, rfl, rfl, h3, r3⟩ := trodAll_cons r2
  obtain ⟨rfl, rfl, rfl⟩ := trodAll_nil r3
  obtain rfl : args = #[v0, v1, v2, v3] := by cases args; simp_all
  obtain ⟨ga, qa, fa, da, rfl, a1, a2, a3, a4, a5, a6⟩ := open_cell (hval 0 _ v0 rfl rfl) h0
  obtain ⟨gb, qb, fb, db, rfl, b1, b2, b3, b4, b5, b6⟩ := open_cell (hval 1 _ v1 rfl rfl) h1
  obtain ⟨ov, rfl, rfl, rfl⟩ := open_bool Try.underlying4 (hval 2 4 v2 rfl rfl) h2
  obtain ⟨kp, rfl, rfl, rfl, _⟩ := open_int Try.underlying3 (hval 3 3 v3 rfl rfl) h3
  exact sectorTorn_ok ga qa fa gb qb fb da db ov kp W a1 a2 a3 a4 a5 a6 b1 b2 b3 b4 b5 b6

set_option maxRecDepth 100000 in
theorem torn_lifted (os : Os) (started : os.Started) (H : Type) (enc : TypeId × Value → H) :
    ReturnsInHanded {} Try.checked os 7 .any (Rows.sectorTornSpec.pre6 enc Try.prog Try.f7 Rows.sectorTornRow.domain false) (Rows.sectorTornSpec.post enc Try.prog Try.f7 false true false false) :=
  law_lift Try.func7 (by kernel_rfl) rfl rfl Try.underlying4 (by kernel_rfl) (fun H ds h => by
    match ds, h with
    | [a, b, c, d], _ => rfl) torn_walk os started H enc
    (ChangeSpec.witness6 (enc := enc) (C := Try.checked) false ⟨#[], #[.agg #[.int .u16 0, .int .u32 0, .int .u8 0, .string ⟨#[]⟩], .agg #[.int .u16 0, .int .u32 0, .int .u8 0, .string ⟨#[]⟩], .bool false, .int .i64 0], []⟩ 8 (by kernel_rfl) (by kernel_rfl) (by kernel_rfl) (by kernel_rfl))

theorem sectorTorn_holds : Rows.SectorTornSaid :=
  OpenClaim.holds_of_wide 7 Try.f7 rfl rfl rfl rfl rfl rfl rfl ⟨rfl, rfl, rfl, rfl, rfl⟩ rfl rfl rfl rfl rfl (by kernel_rfl) Try.func7 (by kernel_rfl)
    (of_decide_eq_true (by kernel_rfl)) (by unfold Func.isWrapper; first | (rw [if_pos (by decide +kernel)]; kernel_rfl) | (rw [if_neg (by decide +kernel)]; exact ⟨rfl, rfl⟩))
    (fun os started H enc _ => torn_lifted os started H enc)
#print axioms sectorTorn_holds
end Go.Proofs.Ytikdpkhcegjmfaa

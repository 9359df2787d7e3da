/- The operations of the laws of chapter 17, as they are handed in. -/
import Derived.Test.YtikdpkhcegjmfaaW17
import Derived.Test.YtikdpkhcegjmfaaArg
namespace Go.Proofs.Ytikdpkhcegjmfaa
open Go.ChangeShapes Go.WideShapes Go.ChangeAt Go.RowKit Go.Joins
theorem cells_rcell' : Try.prog.cellsOf 25 = 4 := by kernel_rfl
theorem cells_op : Try.prog.cellsOf 75 = 8 := by kernel_rfl
theorem cells_ints : Try.prog.cellsOf 73 = 1 := by kernel_rfl
theorem list8 {α : Type} {l : List α} (h : l.length = 8) : ∃ a b c d e f g i, l = [a, b, c, d, e, f, g, i] := by
  match l, h with
  | [a, b, c, d, e, f, g, i], _ => exact ⟨a, b, c, d, e, f, g, i, rfl⟩
section
variable {H : Type} {enc : TypeId × Value → H} {W : World}
set_option maxRecDepth 100000 in
theorem open_op {fuel : Nat} {cs : List Value} {x : DataW H × List MemPlace} (h : DataW.trod enc Try.prog W 0 (fun _ => true) true fuel 75 cs = some x) : ∃ o : OpV, cs = opC o ∧ OpOk W.heap.size W o := by
  have hl := (DataW.trod_struct Try.underlying75 h).choose_spec.choose_spec.2.2.1
  rw [cells_op] at hl
  obtain ⟨c0, c1, c2, c3, c4, c5, c6, c7, rfl⟩ := list8 hl
  obtain ⟨n0, y0, h0⟩ := trod_at Try.underlying75 h 0 rfl cells_int
  obtain ⟨n1, y1, h1⟩ := trod_at Try.underlying75 h 1 rfl cells_int
  obtain ⟨n2, y2, h2⟩ := trod_at Try.underlying75 h 2 rfl cells_string
  obtain ⟨n3, y3, h3⟩ := trod_at Try.underlying75 h 3 rfl cells_rcell'
  obtain ⟨n4, y4, h4⟩ := trod_at Try.underlying75 h 4 rfl cells_ints
  obtain ⟨m0, z0, g0⟩ := trod_at Try.underlying25 h3 0 rfl (m := 1) (by kernel_rfl)
  obtain ⟨m1, z1, g1⟩ := trod_at Try.underlying25 h3 1 rfl (m := 1) (by kernel_rfl)
  obtain ⟨m2, z2, g2⟩ := trod_at Try.underlying25 h3 2 rfl (m := 1) (by kernel_rfl)
  obtain ⟨m3, z3, g3⟩ := trod_at Try.underlying25 h3 3 rfl (m := 1) (by kernel_rfl)
  obtain ⟨kd, e0, _, _⟩ := open_intR h0
  obtain ⟨ii, e1, _, b1⟩ := open_intR h1
  obtain ⟨s, e2, b2⟩ := open_strR h2
  obtain ⟨K, ks, kc, e4, hrd, b4⟩ := open_intsR h4
  obtain ⟨cg, f0, _, w0⟩ := DataW.trod_int Try.underlying22 g0
  obtain ⟨cq, f1, _, w1⟩ := DataW.trod_int Try.underlying23 g1
  obtain ⟨cf, f2, _, w2⟩ := DataW.trod_int Try.underlying5 g2
  obtain ⟨cd, f3, b3⟩ := open_strR g3
  have d0 := wf_bd_u16 w0
  have d1 := wf_bd_u32 w1
  have d2 := wf_bd_u8 w2
  obtain rfl : c0 = _ := (List.cons.inj (show [c0] = _ from e0)).1
  obtain rfl : c1 = _ := (List.cons.inj (show [c1] = _ from e1)).1
  obtain rfl : c2 = _ := (List.cons.inj (show [c2] = _ from e2)).1
  obtain rfl : c7 = _ := (List.cons.inj (show [c7] = _ from e4)).1
  obtain rfl : c3 = _ := (List.cons.inj (show [c3] = _ from f0)).1
  obtain rfl : c4 = _ := (List.cons.inj (show [c4] = _ from f1)).1
  obtain rfl : c5 = _ := (List.cons.inj (show [c5] = _ from f2)).1
  obtain rfl : c6 = _ := (List.cons.inj (show [c6] = _ from f3)).1
  exact ⟨⟨kd, ii, s, cg, cq, cf, cd, K, ks, kc⟩, rfl, ⟨b1, d0.1, d0.2, d1.1, d1.2, d2.1, d2.2, b2, b3, b4, hrd⟩⟩
instance : Inhabited OpV := ⟨⟨0, 0, [], 0, 0, 0, [], none, [], 0⟩⟩
theorem open_ops {fuel : Nat} {cs : List Value} {x : DataW H × List MemPlace} (h : DataW.trod enc Try.prog W 0 (fun _ => true) true fuel 66 cs = some x) :
    ∃ (A : Option Addr) (ops : List OpV) (c : Nat), cs = [.slice A ops.length c] ∧ Rd W.heap.size W A (ops.flatMap opC) ∧ (∀ o ∈ ops, OpOk W.heap.size W o) ∧ ops.length ≤ 9223372036854775807 := by
  rcases Deep.open_slice Try.underlying66 h with ⟨rfl, _⟩ | ⟨a, len, cap, m, n, D, Pl, rfl, _, hlc, hcm, hm, _, hall⟩
  · exact ⟨none, [], 0, rfl, Rd.empty _ _ _, by simp, by simp⟩
  · simp only [if_true] at hm
    subst hm
    rw [cells_op] at hall
    have hq : ∀ i, i < len → ∃ o : OpV, W.cells? 0 (a.add (i * 8)) 8 = some (opC o) ∧ OpOk W.heap.size W o := fun i hi => by
      obtain ⟨cs', h1, h2⟩ := hall i (by omega)
      obtain ⟨o, e, ho⟩ := open_op h2
      exact ⟨o, by rw [h1, e], ho⟩
    obtain ⟨q, hq⟩ := Deep.choose_lt hq
    refine ⟨some a, (List.range len).map q, m, by simp, ?_, ?_, by simpa using maxLen_le (Nat.le_trans hlc hcm)⟩
    · have := Rd.of_cells (f := fun i => opC (q i)) (by decide) (fun i hi => (hq i hi).1)
      rw [List.flatMap_map]
      exact this
    · intro o ho
      obtain ⟨i, hi, rfl⟩ := List.mem_map.1 ho
      exact (hq i (List.mem_range.1 hi)).2
end
end Go.Proofs.Ytikdpkhcegjmfaa

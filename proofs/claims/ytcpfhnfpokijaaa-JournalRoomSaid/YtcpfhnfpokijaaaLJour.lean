/- The statement JournalRoomSaid: for every number, list of strings and number the law JournalRoom returns true, and its arguments read afterwards as before. No conditions. -/
import Derived.Test.YtcpfhnfpokijaaaLaw
import Derived.Test.YtcpfhnfpokijaaaOp
import Derived.Test.YtcpfhnfpokijaaaJ12
namespace Go.Proofs.Ytcpfhnfpokijaaa
open Go.ChangeShapes Go.WideShapes Go.ChangeAt Go.RowKit Go.Joins

theorem jopen_int {H : Type} {enc : TypeId × Value → H} {W : World} {fuel : Nat} {cs : List Value} {x : DataW H × List MemPlace} (h : DataW.trod enc Try.prog W 0 (fun _ => true) true fuel 3 cs = some x) : ∃ q : Int, cs = [.int .i64 q] := by
  obtain ⟨q, e, _, _⟩ := DataW.trod_int Try.underlying3 h
  exact ⟨q, e⟩
theorem jopen_str {H : Type} {enc : TypeId × Value → H} {W : World} {fuel : Nat} {cs : List Value} {x : DataW H × List MemPlace} (h : DataW.trod enc Try.prog W 0 (fun _ => true) true fuel 9 cs = some x) : ∃ l : List UInt8, cs = [sv l] := by
  obtain ⟨s0, e, _, hs⟩ := DataW.trod_string Try.underlying9 h
  obtain ⟨l, rfl⟩ := str_list s0
  exact ⟨l, e⟩
theorem flat_sv : ∀ ls : List (List UInt8), (ls.flatMap fun s : List UInt8 => [sv s]) = ls.map sv
  | [] => rfl
  | x :: xs => by rw [List.flatMap_cons, flat_sv xs]; rfl
theorem jcells_string : Try.prog.cellsOf 9 = 1 := by kernel_rfl

set_option maxRecDepth 100000 in
theorem journalRoom_walk (W : World) (args : Array Value) (h : ArgsOk Try.f3 W args) : Fn Try.prog 3 args.toList W fun v w' => v = .bool true ∧ Fr [] W w' := by
  obtain ⟨H, enc, base, ds, p, hval, hA, _⟩ := h
  rw [Try.params3] at hA hval
  obtain ⟨v0, vs0, d0, ds0, p0, q0, hargs, rfl, rfl, h0, r0⟩ := trodAll_cons hA
  obtain ⟨v1, vs1, d1, ds1, p1, q1, rfl, rfl, rfl, h1, r1⟩ := trodAll_cons r0
  obtain ⟨v2, vs2, d2, ds2, p2, q2, rfl, rfl, rfl, h2, r2⟩ := trodAll_cons r1
  obtain ⟨rfl, rfl, rfl⟩ := trodAll_nil r2
  obtain rfl : args = #[v0, v1, v2] := by cases args; simp_all
  obtain ⟨fu0, h0⟩ := h0
  obtain ⟨fu1, h1⟩ := h1
  obtain ⟨fu2, h2⟩ := h2
  obtain ⟨n, e0⟩ := jopen_int h0
  obtain ⟨ct, e2⟩ := jopen_int h2
  obtain rfl := int_val Try.underlying3 (hval 0 3 v0 rfl rfl) e0
  obtain rfl := int_val Try.underlying3 (hval 2 3 v2 rfl rfl) e2
  obtain ⟨A, ls, c, e, hsl, _⟩ := open_sl (ec := fun s : List UInt8 => [sv s]) (wf := fun _ => True) Try.underlying22 jcells_string (by decide) (fun _ => rfl) (fun fuel cs x h => by
    obtain ⟨l, e⟩ := jopen_str h
    exact ⟨l, e, trivial⟩) h1
  obtain rfl := sl_val Try.underlying22 (hval 1 22 v1 rfl rfl) e
  have hm := flat_sv ls
  have hrd := hsl.rd
  rw [hm] at hrd
  exact journalRoom_ok n ct A c ls W hrd (mlen_le (Nat.le_trans hsl.lc hsl.cm))

set_option maxRecDepth 100000 in
theorem journalRoom_lifted (os : Os) (started : os.Started) (H : Type) (enc : TypeId × Value → H) :
    ReturnsInHanded {} Try.checked os 3 .any (Rows.journalRoomSpec.pre6 enc Try.prog Try.f3 Rows.journalRoomRow.domain false) (Rows.journalRoomSpec.post enc Try.prog Try.f3 false true false false) :=
  law_lift Try.func3 (by kernel_rfl) rfl rfl Try.underlying4 (by kernel_rfl) (fun H ds h => by
    match ds, h with
    | [a, b, c], _ => rfl) journalRoom_walk os started H enc
    (ChangeSpec.witness6 (enc := enc) (C := Try.checked) false ⟨#[], #[.int .i64 0, .slice none 0 0, .int .i64 0], []⟩ 8 (by kernel_rfl) (by kernel_rfl) (by kernel_rfl) (by kernel_rfl))

theorem journalRoom_holds : Rows.JournalRoomSaid :=
  OpenClaim.holds_of_wide 3 Try.f3 rfl rfl rfl rfl rfl rfl rfl ⟨rfl, rfl, rfl, rfl, rfl⟩ rfl rfl rfl rfl rfl (by kernel_rfl) Try.func3 (by kernel_rfl)
    (of_decide_eq_true (by kernel_rfl)) (by unfold Func.isWrapper; first | (rw [if_pos (by decide +kernel)]; kernel_rfl) | (rw [if_neg (by decide +kernel)]; exact ⟨rfl, rfl⟩))
    (fun os started H enc _ => journalRoom_lifted os started H enc)
#print axioms journalRoom_holds
end Go.Proofs.Ytcpfhnfpokijaaa

/- Ranges over a string: a rune and its place each time. -/
import Derived.Test.YtngofknckkiboaaGreatDoorSk
import Derived.Laws.RangeString
import Derived.Lib.OthersKept
import Derived.Lib.TrimU
import Derived.Maps.RangeRun
set_option linter.unusedVariables false
set_option linter.unusedSimpArgs false
namespace Go.Proofs.YtngofknckkiboaaGreatDoor
open Go.RowKit
open Go.ChangeMaps (setBlock)

/-- The rune at a place of a string, and how many bytes it has. -/
def decR (s : List UInt8) (pos : Int) : Int := ((Utf8.decode ⟨s.toArray⟩ pos.toNat).1 : Int)
def decW (s : List UInt8) (pos : Int) : Int := ((Utf8.decode ⟨s.toArray⟩ pos.toNat).2 : Int)
theorem decW_pos (s : List UInt8) (pos : Int) : 1 ≤ decW s pos := by
  have := Lib.width_pos ⟨s.toArray⟩ pos.toNat
  unfold decW; omega
section
variable [Dfs] {P : Program} {n : Nat} {env : Env} {w : World} {o : Oper} {K : Env → World → Prop} {H : Heap} {s : List UInt8}
theorem a_rangeS {t d : Nat} {x : Operand} (ho : o.op = .range t x) (hd : o.dst = some d) (hn : Nat.blt d n = true) (hx : env.ev x = some (sv s)) (ht : P.underlying t = some .string) (h : Hp w H)
    (hK : ∀ r w', Hp w' (H ++ [(some r, .stringIter ⟨s.toArray⟩ 0)]) → Fr [] w w' → w.heap.size ≤ r → K ((d, .pointer (some ⟨r, 0, none⟩)) :: env) w') : Act1 P n env w o K := by
  refine a_run hd hn (fun a r => ?_) (hK w.heap.size (w.alloc (.stringIter ⟨s.toArray⟩ 0)) (h.alloc _) (Fr.alloc w _) (Nat.le_refl _))
  unfold execOp
  have := run_range_string (P := P) w t ⟨s.toArray⟩ ht
  simp only [ho, r.eval hx, sv, Sem.run_bind, this, Result.andThen_ok]
  rfl
theorem a_nextS {r ir d : Nat} {pos : Int} {x : Operand} (ho : o.op = .next x true) (hd : o.dst = some d) (hn : Nat.blt d n = true) (hx : env.ev x = some (.pointer (some ⟨r, 0, none⟩))) (h : Hp w H) (hir : H[ir]? = some (some r, .stringIter ⟨s.toArray⟩ pos.toNat)) (hp : 0 ≤ pos)
    (h0 : ¬ pos < s.length → K ((d, .tuple #[.bool false]) :: env) w)
    (h1 : ∀ w', pos < s.length → Hp w' (H.set ir (some r, .stringIter ⟨s.toArray⟩ (pos + decW s pos).toNat)) → Fr [r] w w' → K ((d, .tuple #[.bool true, .int .i64 pos, .int .i32 (decR s pos)]) :: env) w') : Act1 P n env w o K := by
  have hs : (⟨s.toArray⟩ : ByteArray).size = s.length := by simp [ByteArray.size]
  by_cases hc : pos < s.length
  · have hr := Lib.run_next_any_at (P := P) w r ⟨s.toArray⟩ pos.toNat o.type (h.at hir) (by rw [hs]; omega)
    have hw := decW_pos s pos
    have e1 : (pos + decW s pos).toNat = pos.toNat + (Utf8.decode ⟨s.toArray⟩ pos.toNat).2 := by unfold decW; omega
    have e2 : ((pos.toNat : Nat) : Int) = pos := by omega
    have hf : Fr [r] w (setBlock w r (.stringIter ⟨s.toArray⟩ (pos + decW s pos).toNat)) := Fr.setBlock w r _
    refine a_run hd hn (fun a q => ?_) (h1 (setBlock w r (.stringIter ⟨s.toArray⟩ (pos + decW s pos).toNat)) hc (h.setAt hir hf (setBlock_at (heap_lt (h.at hir)))) hf)
    unfold execOp
    simp only [ho, q.eval hx, Sem.run_bind, hr, Result.andThen_ok]
    rw [e1, e2]
    rfl
  · have hr := Lib.run_next_end_at (P := P) w r ⟨s.toArray⟩ pos.toNat o.type (h.at hir) (by rw [hs]; omega)
    refine a_run hd hn (fun a q => ?_) (h0 hc)
    unfold execOp
    simp only [ho, q.eval hx, Sem.run_bind, hr, Result.andThen_ok]
    rfl
end
end Go.Proofs.YtngofknckkiboaaGreatDoor

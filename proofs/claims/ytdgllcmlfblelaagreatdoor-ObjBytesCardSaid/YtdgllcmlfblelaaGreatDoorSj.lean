/- Interface values: made, asserted, compared with nil. -/
import Derived.Test.YtdgllcmlfblelaaGreatDoorSc
import Derived.Laws.Build
import Derived.Stop.Asserts
set_option linter.unusedVariables false
set_option linter.unusedSimpArgs false
namespace Go.Proofs.YtdgllcmlfblelaaGreatDoor
open Go.RowKit

/-- An error: nil, or a pointer to the block q, whose type is t. -/
def errV (t : Nat) : Option Nat → Value
  | none => .nilIface
  | some q => .iface t (.pointer (some ⟨q, 0, none⟩))
theorem run_eq_nilii {P : Program} {t : Nat} {ms : Array (String × TypeId)} (ht : P.underlying t = some (.interface ms)) (d : Nat) (w : World) : (Op.equalIn (d + 1) t .nilIface .nilIface).run P w = .ok true w := by
  simp [Op.equalIn, run_underlying ht]
theorem run_eq_ifni {P : Program} {t u : Nat} {v : Value} {ms : Array (String × TypeId)} (ht : P.underlying t = some (.interface ms)) (d : Nat) (w : World) : (Op.equalIn (d + 1) t (.iface u v) .nilIface).run P w = .ok false w := by
  simp [Op.equalIn, run_underlying ht]
section
variable [Dfs] {P : Program} {n : Nat} {env : Env} {S : World → Prop} {o : Oper}
theorem y_mki {t : Nat} {x : Operand} {v : Value} (ho : o.op = .makeInterface t x) (hx : env.ev x = some v) (ht : P.concrete t = true) : Yld P n env S o (.iface t v) := fun a r w _ => by
  have h := run_makeInterface (P := P) w t v ht
  unfold execOp
  simp only [ho, r.eval hx, Sem.run_bind, h, Result.andThen_ok]
  rfl
theorem y_eqNil {x : Operand} {t u : Nat} {ms : Array (String × TypeId)} {b : Bool} {v : Value} (ho : o.op = .binOp .eql t x (.const .nilIface) u) (hx : env.ev x = some v) (ht : P.underlying t = some (.interface ms)) (hv : ∀ d w, (Op.equalIn (d + 1) t v .nilIface).run P w = .ok b w) (hv0 : ∀ w y, (eqGuard .eql t y (.const .nilIface) v .nilIface).run P w = .ok () w) : Yld P n env S o (.bool b) := fun a r w _ => by
  have h := hv 9999 w
  have hg := hv0 w x
  unfold execOp
  have ey : a.eval (.const .nilIface) = .nilIface := rfl
  simp only [ho, r.eval hx, ey, Sem.run_bind, hg, Result.andThen_ok, binOp]
  simp only [Op.equal, Op.maxDepth, h, Result.andThen_ok]
  rfl
theorem y_neNil {x : Operand} {t u : Nat} {ms : Array (String × TypeId)} {b : Bool} {v : Value} (ho : o.op = .binOp .neq t x (.const .nilIface) u) (hx : env.ev x = some v) (ht : P.underlying t = some (.interface ms)) (hv : ∀ d w, (Op.equalIn (d + 1) t v .nilIface).run P w = .ok b w) (hv0 : ∀ w y, (eqGuard .neq t y (.const .nilIface) v .nilIface).run P w = .ok () w) : Yld P n env S o (.bool (!b)) := fun a r w _ => by
  have h := hv 9999 w
  have hg := hv0 w x
  unfold execOp
  have ey : a.eval (.const .nilIface) = .nilIface := rfl
  simp only [ho, r.eval hx, ey, Sem.run_bind, hg, Result.andThen_ok, binOp]
  simp only [Op.equal, Op.maxDepth, h, Result.andThen_ok]
  rfl
/-- err == nil, where e says whether there is one. -/
theorem y_eqE {x : Operand} {t u ty : Nat} {ms : Array (String × TypeId)} {q : Option Nat} {e : Int} (ho : o.op = .binOp .eql t x (.const .nilIface) u) (hx : env.ev x = some (errV ty q)) (ht : P.underlying t = some (.interface ms)) (hq : q = none ↔ e = 0) : Yld P n env S o (.bool (e == 0)) := by
  cases q with
  | none =>
    have h0 : e = 0 := hq.1 rfl
    subst h0
    exact y_eqNil (b := true) ho hx ht (fun d w => run_eq_nilii ht d w) (fun w y => by cases y <;> rfl)
  | some q =>
    have h0 : (e == 0) = false := by simpa using fun h => by have := hq.2 h; cases this
    rw [h0]
    exact y_eqNil (b := false) ho hx ht (fun d w => run_eq_ifni ht d w) (fun w y => by cases y <;> rfl)
theorem y_neE {x : Operand} {t u ty : Nat} {ms : Array (String × TypeId)} {q : Option Nat} {e : Int} (ho : o.op = .binOp .neq t x (.const .nilIface) u) (hx : env.ev x = some (errV ty q)) (ht : P.underlying t = some (.interface ms)) (hq : q = none ↔ e = 0) : Yld P n env S o (.bool (e != 0)) := by
  cases q with
  | none =>
    have h0 : e = 0 := hq.1 rfl
    subst h0
    exact y_neNil (b := true) ho hx ht (fun d w => run_eq_nilii ht d w) (fun w y => by cases y <;> rfl)
  | some q =>
    have h0 : (e != 0) = true := by simpa using fun h => by have := hq.2 h; cases this
    rw [h0]
    exact y_neNil (b := false) ho hx ht (fun d w => run_eq_ifni ht d w) (fun w y => by cases y <;> rfl)
end
end Go.Proofs.YtdgllcmlfblelaaGreatDoor

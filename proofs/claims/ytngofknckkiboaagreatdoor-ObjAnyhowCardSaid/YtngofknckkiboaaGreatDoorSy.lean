/- Rules for single operations, over any program: what each yields (Yld) or does (Act1). -/
import Derived.Test.YtngofknckkiboaaGreatDoorSx
namespace Go.Proofs.YtngofknckkiboaaGreatDoor
open Go.RowKit

/-- A string value, by its bytes. -/
abbrev sv (l : List UInt8) : Value := .string ⟨l.toArray⟩
/-- A row of cells. -/
abbrev Cl (cs : List Value) (t : TypeId) : Obj := .cells cs.toArray t (0, 0)

/-! ### closed facts on types -/
def fieldOff (P : Program) (s f : Nat) : Option Nat := match P.underlying s with
  | some (.struct fs) => match fs[f]? with
    | some fd => match P.info? fd.type with
      | some i => if i.size = 0 then none else some fd.offset
      | none => none
    | none => none
  | _ => none
/-- The number of cells of a struct or an array. -/
def aggSize (P : Program) (t : Nat) : Option Nat := match P.underlying t with
  | some (.struct _) | some (.array _ _) => (P.info? t).map (·.size)
  | _ => none
/-- A type whose values are no structs and no arrays. -/
def plainB (P : Program) (t : Nat) : Bool := match P.underlying t with
  | some (.struct _) | some (.array _ _) => false
  | some _ => match P.info? t with
    | some i => i.size == 1
    | none => false
  | none => false
def zeroCells (P : Program) (t : Nat) : Option (List Value) := (P.info? t).bind fun i => i.zero.map fun z => z.cells.toList

section
variable [Dfs] {P : Program} {n : Nat} {env : Env} {S : World → Prop} {o : Oper} {v : Value}

theorem y_move {x : Operand} (ho : o.op = .move x) (hx : env.ev x = some v) : Yld P n env S o v := fun a r w _ => by
  unfold execOp; simp only [ho, r.eval hx]; rfl
theorem y_assign {x : Operand} (ho : o.op = .assign x) (hx : env.ev x = some v) : Yld P n env S o v := fun a r w _ => by
  unfold execOp; simp only [ho, r.eval hx]; rfl
theorem y_pick_t {c x y : Operand} (ho : o.op = .pick c x y) (hc : env.ev c = some (.bool true)) (hx : env.ev x = some v) : Yld P n env S o v := fun a r w _ => by
  unfold execOp; simp [ho, r.eval hc, r.eval hx, asBool]
theorem y_pick_f {c x y : Operand} (ho : o.op = .pick c x y) (hc : env.ev c = some (.bool false)) (hx : env.ev y = some v) : Yld P n env S o v := fun a r w _ => by
  unfold execOp; simp [ho, r.eval hc, r.eval hx, asBool]
theorem y_ext {x : Operand} {i : Nat} {vs : Array Value} (ho : o.op = .extract x i) (hx : env.ev x = some (.tuple vs)) (hv : vs[i]? = some v) : Yld P n env S o v := fun a r w _ => by
  unfold execOp; simp [ho, r.eval hx, Instr.extract, hv]
theorem y_nil {x : Operand} {b : Addr} (ho : o.op = .nilCheck x) (hx : env.ev x = some (.pointer (some b))) : Yld P n env S o (.pointer (some b)) := fun a r w _ => by
  unfold execOp; simp only [ho, r.eval hx]; rfl
theorem y_fld {x : Operand} {s f g k off : Nat} (ho : o.op = .fieldAddr s x f) (hx : env.ev x = some (.pointer (some ⟨g, k, none⟩))) (hf : fieldOff P s f = some off) :
    Yld P n env S o (.pointer (some ⟨g, k + off, none⟩)) := fun a r w _ => by
  unfold fieldOff at hf
  split at hf <;> try (cases hf; done)
  rename_i fs hu
  split at hf <;> try (cases hf; done)
  rename_i fd hfd
  split at hf <;> try (cases hf; done)
  rename_i i hi
  split at hf
  · cases hf
  · rename_i hz
    injection hf with hf
    subst hf
    unfold execOp
    simp [ho, r.eval hx, Instr.fieldAt, run_underlying hu, hfd, Instr.sureAddr, fieldPlace, sizeOf, typeInfo, hi, hz, Addr.add_mid]
theorem y_not {x : Operand} {t : Nat} {b : Bool} (ho : o.op = .unOp .not t x) (hx : env.ev x = some (.bool b)) : Yld P n env S o (.bool !b) := fun a r w _ => by
  unfold execOp; simp [ho, r.eval hx, Op.unary]

/-! #### numbers -/
theorem y_cmp {op : BinOp} {x y : Operand} {t u : Nat} {k : IntKind} {p q : Int} {b : Bool} (ho : o.op = .binOp op t x y u) (hx : env.ev x = some (.int k p)) (hy : env.ev y = some (.int k q))
    (hr : ∀ w : World, (Op.intCmp op p q).run P w = .ok (.bool b) w) (hop : op = .eql ∨ op = .neq ∨ op = .lss ∨ op = .leq ∨ op = .gtr ∨ op = .geq) : Yld P n env S o (.bool b) := fun a r w _ => by
  unfold execOp
  rcases hop with rfl | rfl | rfl | rfl | rfl | rfl <;> simp [ho, r.eval hx, r.eval hy, eqGuard, binOp, hr]
theorem y_eq {x y : Operand} {t u : Nat} {k : IntKind} {p q : Int} (ho : o.op = .binOp .eql t x y u) (hx : env.ev x = some (.int k p)) (hy : env.ev y = some (.int k q)) : Yld P n env S o (.bool (p == q)) :=
  y_cmp ho hx hy (fun _ => rfl) (by simp)
theorem y_eqT {x y : Operand} {t u : Nat} {k : IntKind} {p q : Int} (ho : o.op = .binOp .eql t x y u) (hx : env.ev x = some (.int k p)) (hy : env.ev y = some (.int k q)) (h : p = q) : Yld P n env S o (.bool true) :=
  y_cmp ho hx hy (fun w => by simp [Op.intCmp, h]) (by simp)
theorem y_eqF {x y : Operand} {t u : Nat} {k : IntKind} {p q : Int} (ho : o.op = .binOp .eql t x y u) (hx : env.ev x = some (.int k p)) (hy : env.ev y = some (.int k q)) (h : p ≠ q) : Yld P n env S o (.bool false) :=
  y_cmp ho hx hy (fun w => by simp [Op.intCmp, h]) (by simp)
theorem y_ne {x y : Operand} {t u : Nat} {k : IntKind} {p q : Int} (ho : o.op = .binOp .neq t x y u) (hx : env.ev x = some (.int k p)) (hy : env.ev y = some (.int k q)) : Yld P n env S o (.bool (p != q)) :=
  y_cmp ho hx hy (fun _ => rfl) (by simp)
theorem y_neT {x y : Operand} {t u : Nat} {k : IntKind} {p q : Int} (ho : o.op = .binOp .neq t x y u) (hx : env.ev x = some (.int k p)) (hy : env.ev y = some (.int k q)) (h : p ≠ q) : Yld P n env S o (.bool true) :=
  y_cmp ho hx hy (fun w => by simp [Op.intCmp, h]) (by simp)
theorem y_neF {x y : Operand} {t u : Nat} {k : IntKind} {p q : Int} (ho : o.op = .binOp .neq t x y u) (hx : env.ev x = some (.int k p)) (hy : env.ev y = some (.int k q)) (h : p = q) : Yld P n env S o (.bool false) :=
  y_cmp ho hx hy (fun w => by simp [Op.intCmp, h]) (by simp)
theorem y_lt {x y : Operand} {t u : Nat} {k : IntKind} {p q : Int} (ho : o.op = .binOp .lss t x y u) (hx : env.ev x = some (.int k p)) (hy : env.ev y = some (.int k q)) : Yld P n env S o (.bool (decide (p < q))) :=
  y_cmp ho hx hy (fun _ => rfl) (by simp)
theorem y_ltT {x y : Operand} {t u : Nat} {k : IntKind} {p q : Int} (ho : o.op = .binOp .lss t x y u) (hx : env.ev x = some (.int k p)) (hy : env.ev y = some (.int k q)) (h : p < q) : Yld P n env S o (.bool true) :=
  y_cmp ho hx hy (fun w => by simp [Op.intCmp, h]) (by simp)
theorem y_ltF {x y : Operand} {t u : Nat} {k : IntKind} {p q : Int} (ho : o.op = .binOp .lss t x y u) (hx : env.ev x = some (.int k p)) (hy : env.ev y = some (.int k q)) (h : q ≤ p) : Yld P n env S o (.bool false) :=
  y_cmp ho hx hy (fun w => by simp [Op.intCmp, h]) (by simp)
theorem y_le {x y : Operand} {t u : Nat} {k : IntKind} {p q : Int} (ho : o.op = .binOp .leq t x y u) (hx : env.ev x = some (.int k p)) (hy : env.ev y = some (.int k q)) : Yld P n env S o (.bool (decide (p ≤ q))) :=
  y_cmp ho hx hy (fun _ => rfl) (by simp)
theorem y_leT {x y : Operand} {t u : Nat} {k : IntKind} {p q : Int} (ho : o.op = .binOp .leq t x y u) (hx : env.ev x = some (.int k p)) (hy : env.ev y = some (.int k q)) (h : p ≤ q) : Yld P n env S o (.bool true) :=
  y_cmp ho hx hy (fun w => by simp [Op.intCmp, h]) (by simp)
theorem y_leF {x y : Operand} {t u : Nat} {k : IntKind} {p q : Int} (ho : o.op = .binOp .leq t x y u) (hx : env.ev x = some (.int k p)) (hy : env.ev y = some (.int k q)) (h : q < p) : Yld P n env S o (.bool false) :=
  y_cmp ho hx hy (fun w => by simp [Op.intCmp, h]) (by simp)
theorem y_gt {x y : Operand} {t u : Nat} {k : IntKind} {p q : Int} (ho : o.op = .binOp .gtr t x y u) (hx : env.ev x = some (.int k p)) (hy : env.ev y = some (.int k q)) : Yld P n env S o (.bool (decide (q < p))) :=
  y_cmp ho hx hy (fun _ => rfl) (by simp)
theorem y_gtT {x y : Operand} {t u : Nat} {k : IntKind} {p q : Int} (ho : o.op = .binOp .gtr t x y u) (hx : env.ev x = some (.int k p)) (hy : env.ev y = some (.int k q)) (h : q < p) : Yld P n env S o (.bool true) :=
  y_cmp ho hx hy (fun w => by simp [Op.intCmp, h]) (by simp)
theorem y_gtF {x y : Operand} {t u : Nat} {k : IntKind} {p q : Int} (ho : o.op = .binOp .gtr t x y u) (hx : env.ev x = some (.int k p)) (hy : env.ev y = some (.int k q)) (h : p ≤ q) : Yld P n env S o (.bool false) :=
  y_cmp ho hx hy (fun w => by simp [Op.intCmp, h]) (by simp)
theorem y_ge {x y : Operand} {t u : Nat} {k : IntKind} {p q : Int} (ho : o.op = .binOp .geq t x y u) (hx : env.ev x = some (.int k p)) (hy : env.ev y = some (.int k q)) : Yld P n env S o (.bool (decide (q ≤ p))) :=
  y_cmp ho hx hy (fun _ => rfl) (by simp)
theorem y_geT {x y : Operand} {t u : Nat} {k : IntKind} {p q : Int} (ho : o.op = .binOp .geq t x y u) (hx : env.ev x = some (.int k p)) (hy : env.ev y = some (.int k q)) (h : q ≤ p) : Yld P n env S o (.bool true) :=
  y_cmp ho hx hy (fun w => by simp [Op.intCmp, h]) (by simp)
theorem y_geF {x y : Operand} {t u : Nat} {k : IntKind} {p q : Int} (ho : o.op = .binOp .geq t x y u) (hx : env.ev x = some (.int k p)) (hy : env.ev y = some (.int k q)) (h : p < q) : Yld P n env S o (.bool false) :=
  y_cmp ho hx hy (fun w => by simp [Op.intCmp, h]) (by simp)

theorem y_add {x y : Operand} {t u : Nat} {k : IntKind} {p q c : Int} (ho : o.op = .binOp .add t x y u) (hx : env.ev x = some (.int k p)) (hy : env.ev y = some (.int k q)) (hw : k.wrap (p + q) = c) : Yld P n env S o (.int k c) := fun a r w _ => by
  unfold execOp; simp [ho, r.eval hx, r.eval hy, eqGuard, binOp, Op.intArith, hw]
theorem y_sub {x y : Operand} {t u : Nat} {k : IntKind} {p q c : Int} (ho : o.op = .binOp .sub t x y u) (hx : env.ev x = some (.int k p)) (hy : env.ev y = some (.int k q)) (hw : k.wrap (p - q) = c) : Yld P n env S o (.int k c) := fun a r w _ => by
  unfold execOp; simp [ho, r.eval hx, r.eval hy, eqGuard, binOp, Op.intArith, hw]
theorem y_mul {x y : Operand} {t u : Nat} {k : IntKind} {p q c : Int} (ho : o.op = .binOp .mul t x y u) (hx : env.ev x = some (.int k p)) (hy : env.ev y = some (.int k q)) (hw : k.wrap (p * q) = c) : Yld P n env S o (.int k c) := fun a r w _ => by
  unfold execOp; simp [ho, r.eval hx, r.eval hy, eqGuard, binOp, Op.intArith, hw]
theorem y_quo {x y : Operand} {t u : Nat} {k : IntKind} {p q c : Int} (ho : o.op = .binOp .quo t x y u) (hx : env.ev x = some (.int k p)) (hy : env.ev y = some (.int k q)) (h0 : q ≠ 0) (hw : k.wrap (p.tdiv q) = c) : Yld P n env S o (.int k c) := fun a r w _ => by
  unfold execOp; simp [ho, r.eval hx, r.eval hy, eqGuard, binOp, Op.intDiv, hw, h0]
theorem y_rem {x y : Operand} {t u : Nat} {k : IntKind} {p q c : Int} (ho : o.op = .binOp .rem t x y u) (hx : env.ev x = some (.int k p)) (hy : env.ev y = some (.int k q)) (h0 : q ≠ 0) (hw : p.tmod q = c) : Yld P n env S o (.int k c) := fun a r w _ => by
  unfold execOp; simp [ho, r.eval hx, r.eval hy, eqGuard, binOp, Op.intDiv, hw, h0]
theorem y_shl {x y : Operand} {t u : Nat} {k ky : IntKind} {p q c : Int} (ho : o.op = .binOp .shl t x y u) (hx : env.ev x = some (.int k p)) (hy : env.ev y = some (.int ky q)) (h0 : 0 ≤ q) (hw : k.wrap (p * 2 ^ (min q.toNat k.bits)) = c) : Yld P n env S o (.int k c) := fun a r w _ => by
  have h0' : ¬ q < 0 := by omega
  unfold execOp; simp [ho, r.eval hx, r.eval hy, eqGuard, binOp, Op.shift, hw, h0']
theorem y_shr {x y : Operand} {t u : Nat} {k ky : IntKind} {p q c : Int} (ho : o.op = .binOp .shr t x y u) (hx : env.ev x = some (.int k p)) (hy : env.ev y = some (.int ky q)) (h0 : 0 ≤ q) (hw : p.fdiv (2 ^ (min q.toNat k.bits)) = c) : Yld P n env S o (.int k c) := fun a r w _ => by
  have h0' : ¬ q < 0 := by omega
  unfold execOp; simp [ho, r.eval hx, r.eval hy, eqGuard, binOp, Op.shift, hw, h0']
theorem y_bits {op : BinOp} {x y : Operand} {t u : Nat} {k : IntKind} {p q c : Int} (ho : o.op = .binOp op t x y u) (hx : env.ev x = some (.int k p)) (hy : env.ev y = some (.int k q)) (hop : op = .and ∨ op = .or ∨ op = .xor ∨ op = .andNot) (hw : bits op k p q = c) : Yld P n env S o (.int k c) := fun a r w _ => by
  subst hw
  unfold execOp
  rcases hop with rfl | rfl | rfl | rfl <;> simp [ho, r.eval hx, r.eval hy, eqGuard, binOp, Op.intBits, bits]
theorem y_cvi {x : Operand} {src dst : Nat} {d : TypeDesc} {k k0 : IntKind} {p c : Int} (ho : o.op = .convert src dst x) (hx : env.ev x = some (.int k0 p)) (hs : P.underlying src = some d) (hd : P.underlying dst = some (.int k)) (hw : k.wrap p = c) : Yld P n env S o (.int k c) := fun a r w _ => by
  subst hw
  unfold execOp
  simp [ho, r.eval hx, convert, run_underlying hs, run_underlying hd, Conv.intToInt]

/-! #### bools, strings -/
omit [Dfs] in
theorem run_equalIn_bool {P : Program} {t : Nat} (ht : P.underlying t = some .bool) (p q : Bool) (d : Nat) (w : World) : (Op.equalIn (d + 1) t (.bool p) (.bool q)).run P w = .ok (p == q) w := by
  simp [Op.equalIn, run_underlying ht]
theorem y_eqb {x y : Operand} {t u : Nat} {p q : Bool} (ho : o.op = .binOp .eql t x y u) (hx : env.ev x = some (.bool p)) (hy : env.ev y = some (.bool q)) (ht : P.underlying t = some .bool) : Yld P n env S o (.bool (p == q)) := fun a r w _ => by
  have h := run_equalIn_bool ht p q 9999 w
  unfold execOp
  simp only [ho, r.eval hx, r.eval hy]
  simp only [eqGuard, binOp]
  simp [Op.equal, Op.maxDepth, h]
theorem y_neb {x y : Operand} {t u : Nat} {p q : Bool} (ho : o.op = .binOp .neq t x y u) (hx : env.ev x = some (.bool p)) (hy : env.ev y = some (.bool q)) (ht : P.underlying t = some .bool) : Yld P n env S o (.bool (p != q)) := fun a r w _ => by
  have h := run_equalIn_bool ht p q 9999 w
  unfold execOp
  simp only [ho, r.eval hx, r.eval hy]
  simp only [eqGuard, binOp]
  simp [Op.equal, Op.maxDepth, h, bne]
omit [Dfs] in
theorem toList_mk (l : List UInt8) : (⟨l.toArray⟩ : ByteArray).toList = l := by
  rw [ByteArray.toList_eq]
theorem y_eqs {x y : Operand} {t u : Nat} {p q : List UInt8} (ho : o.op = .binOp .eql t x y u) (hx : env.ev x = some (sv p)) (hy : env.ev y = some (sv q)) : Yld P n env S o (.bool (p == q)) := fun a r w _ => by
  unfold execOp; simp [ho, r.eval hx, r.eval hy, eqGuard, binOp, Op.stringOp]
theorem y_nes {x y : Operand} {t u : Nat} {p q : List UInt8} (ho : o.op = .binOp .neq t x y u) (hx : env.ev x = some (sv p)) (hy : env.ev y = some (sv q)) : Yld P n env S o (.bool (p != q)) := fun a r w _ => by
  unfold execOp; simp [ho, r.eval hx, r.eval hy, eqGuard, binOp, Op.stringOp, bne]
theorem y_cat {x y : Operand} {t u : Nat} {p q : List UInt8} (ho : o.op = .binOp .add t x y u) (hx : env.ev x = some (sv p)) (hy : env.ev y = some (sv q)) (hl : p.length + q.length ≤ 9223372036854775807) : Yld P n env S o (sv (p ++ q)) := fun a r w _ => by
  have e : (⟨p.toArray⟩ : ByteArray) ++ ⟨q.toArray⟩ = ⟨(p ++ q).toArray⟩ := by
    apply ByteArray.ext; simp
  have hl' : ¬ IntKind.i64.max < (((⟨p.toArray⟩ : ByteArray).size + (⟨q.toArray⟩ : ByteArray).size : Nat) : Int) := by
    have h1 : IntKind.i64.max = 9223372036854775807 := by decide
    rw [h1]; simp [ByteArray.size]; omega
  unfold execOp
  simp only [ho, r.eval hx, r.eval hy]
  simp only [eqGuard, binOp, Op.stringOp, gt_iff_lt, if_neg hl', e]
  rfl
omit [Dfs] in
theorem run_builtin1 {b : Builtin} {x : Operand} {t : Nat} {u : Value} {a : Act} {w w' : World} (ho : o.op = .call { callee := .builtin b, args := #[x], argTypes := #[t] }) (hx : a.eval x = u)
    (h : ∀ cs, (builtin b #[t] o.type cs #[u]).run P w = .ok (.value v) w') : (execOp a.eval o).run P w = .ok (.value v) w' := by
  unfold execOp
  simp only [ho, resolve, List.map_toArray, List.map_cons, List.map_nil, hx, Sem.run_bind, Sem.run_pure, Result.andThen_ok, invoke, h]
theorem y_lens {x : Operand} {t : Nat} {p : List UInt8} (ho : o.op = .call { callee := .builtin .len, args := #[x], argTypes := #[t] }) (hx : env.ev x = some (sv p)) (ht : P.underlying t = some .string) : Yld P n env S o (.int .i64 p.length) := fun a r w _ =>
  run_builtin1 ho (r.eval hx) fun cs => by
    have h : (Builtin.len_ #[t] o.type #[sv p]).run P w = .ok (goInt (⟨p.toArray⟩ : ByteArray).size) w := by simp [Builtin.len_, run_underlying ht]
    simp only [builtin, Sem.run_bind, h, Result.andThen_ok]
    rfl
theorem y_lenl {x : Operand} {t e : Nat} {b : Option Addr} {l c : Nat} (ho : o.op = .call { callee := .builtin .len, args := #[x], argTypes := #[t] }) (hx : env.ev x = some (.slice b l c)) (ht : P.underlying t = some (.slice e)) : Yld P n env S o (.int .i64 l) := fun a r w _ =>
  run_builtin1 ho (r.eval hx) fun cs => by
    have h : (Builtin.len_ #[t] o.type #[.slice b l c]).run P w = .ok (goInt l) w := by simp [Builtin.len_, run_underlying ht]
    simp only [builtin, Sem.run_bind, h, Result.andThen_ok]
    rfl
end
end Go.Proofs.YtngofknckkiboaaGreatDoor

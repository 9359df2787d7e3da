/- '==' between two struct values whose fields are numbers, strings and bools. -/
import Derived.Test.YtikdpkhcegjmfaaSp
import Derived.Laws.StructEq
namespace Go.Proofs.Ytikdpkhcegjmfaa
open Go.RowKit

/-- 0: a number; 1: a string; 2: a bool. -/
def tagOf (P : Program) (t : Nat) : Option Nat := match P.underlying t with
  | some (.int _) => some 0
  | some .string => some 1
  | some .bool => some 2
  | _ => none
def tagsL (P : Program) : Nat → List Field → Option (List Nat)
  | _, [] => some []
  | k, f :: fs => if f.offset = k ∧ f.name ≠ "_" then match tagOf P f.type, tagsL P (k + 1) fs with
    | some a, some r => some (a :: r)
    | _, _ => none else none
def tagsOf (P : Program) (t : Nat) : Option (List Nat) := match P.underlying t with
  | some (.struct fs) => if P.stoodInHeld t = false ∧ P.eqGuardType P.depth t = false then tagsL P 0 fs.toList else none
  | _ => none
def eqTags : List Nat → List Value → List Value → Option Bool
  | [], [], [] => some true
  | 0 :: ts, .int k a :: xs, .int k' b :: ys => if k = k' then (eqTags ts xs ys).map ((a == b) && ·) else none
  | 1 :: ts, .string a :: xs, .string b :: ys => (eqTags ts xs ys).map ((a.data.toList == b.data.toList) && ·)
  | 2 :: ts, .bool a :: xs, .bool b :: ys => (eqTags ts xs ys).map ((a == b) && ·)
  | _, _, _ => none

theorem tagOf_plain {P : Program} {t a : Nat} (h : tagOf P t = some a) (w : World) : (isAgg t).run P w = .ok false w := by
  unfold tagOf at h
  cases hu : P.underlying t with
  | none => simp [hu] at h
  | some d =>
    unfold isAgg
    simp only [Sem.run_bind, run_underlying hu, Result.andThen_ok]
    cases d <;> simp [hu] at h <;> rfl
theorem run_part1 {P : Program} {t a : Nat} (h : tagOf P t = some a) {cs : Array Value} {k : Nat} {v : Value} (hv : cs[k]? = some v) (w : World) : (part t cs k).run P w = .ok v w := by
  simp [part, tagOf_plain h w, hv]

theorem drop_cons_get {α : Type} {l r : List α} {k : Nat} {x : α} (h : l.drop k = x :: r) : l[k]? = some x ∧ l.drop (k + 1) = r := by
  refine ⟨?_, ?_⟩
  · have := congrArg (·[0]?) h
    simpa using this
  · rw [← List.drop_drop, h]; rfl

theorem run_eqFields_tags {P : Program} (d : Nat) (xs ys : Array Value) : ∀ (fs : List Field) (ts : List Nat) (k : Nat) (b : Bool) (w : World), tagsL P k fs = some ts → eqTags ts (xs.toList.drop k) (ys.toList.drop k) = some b → (Op.eqFields (d + 1) xs ys fs).run P w = .ok b w
  | [], ts, k, b, w, ht, he => by
    simp only [tagsL, Option.some.injEq] at ht
    subst ht
    unfold eqTags at he
    split at he <;> simp_all [Op.eqFields]
  | f :: fs, ts, k, b, w, ht, he => by
    unfold tagsL at ht
    split at ht
    case isFalse => cases ht
    case isTrue hc =>
      split at ht
      case h_2 => cases ht
      case h_1 a r ha hr =>
        simp only [Option.some.injEq] at ht
        subst ht
        have hcmp : ∀ (x y : Value) (xr yr : List Value) (c : Bool), xs.toList.drop k = x :: xr → ys.toList.drop k = y :: yr → (Op.equalIn (d + 1) f.type x y).run P w = .ok c w → ∀ b', eqTags r xr yr = some b' → (Op.eqFields (d + 1) xs ys (f :: fs)).run P w = .ok (c && b') w := by
          intro x y xr yr c hx hy hq b' hb'
          obtain ⟨gx, dx⟩ := drop_cons_get hx
          obtain ⟨gy, dy⟩ := drop_cons_get hy
          have ih := run_eqFields_tags d xs ys fs r (k + 1) b' w hr (by rw [dx, dy]; exact hb')
          have px : (part f.type xs f.offset).run P w = .ok x w := run_part1 ha (by rw [hc.1]; simpa using gx) w
          have py : (part f.type ys f.offset).run P w = .ok y w := run_part1 ha (by rw [hc.1]; simpa using gy) w
          unfold Op.eqFields
          rw [if_pos hc.2]
          simp only [Sem.run_bind, px, py, Result.andThen_ok, hq]
          cases c
          · simp
          · simpa using ih
        have hk : ∀ a', a = a' → tagOf P f.type = some a' := fun a' e => e ▸ ha
        unfold eqTags at he
        split at he
        · simp_all
        · rename_i ts' k1 a1 xr k2 b1 yr h1 h2 h3
          simp only [List.cons.injEq] at h1
          obtain ⟨rfl, rfl⟩ := h1
          split at he
          · rename_i hkk
            subst hkk
            cases hb : eqTags r xr yr with
            | none => simp [hb] at he
            | some b' =>
              simp only [hb, Option.map_some, Option.some.injEq] at he
              rw [← he]
              refine hcmp _ _ xr yr (a1 == b1) h2 h3 ?_ b' hb
              unfold tagOf at ha
              split at ha <;> simp at ha
              rename_i kk hu
              exact run_equalIn_int w d f.type k1 kk a1 b1 hu
          · cases he
        · rename_i ts' a1 xr b1 yr h1 h2 h3
          simp only [List.cons.injEq] at h1
          obtain ⟨rfl, rfl⟩ := h1
          cases hb : eqTags r xr yr with
          | none => simp [hb] at he
          | some b' =>
            simp only [hb, Option.map_some, Option.some.injEq] at he
            rw [← he]
            refine hcmp _ _ xr yr (a1.data.toList == b1.data.toList) h2 h3 ?_ b' hb
            unfold tagOf at ha
            split at ha <;> simp at ha
            rename_i hu
            rw [run_equalIn_string w d f.type a1 b1 hu, ByteArray.toList_eq, ByteArray.toList_eq]
        · rename_i ts' a1 xr b1 yr h1 h2 h3
          simp only [List.cons.injEq] at h1
          obtain ⟨rfl, rfl⟩ := h1
          cases hb : eqTags r xr yr with
          | none => simp [hb] at he
          | some b' =>
            simp only [hb, Option.map_some, Option.some.injEq] at he
            rw [← he]
            refine hcmp _ _ xr yr (a1 == b1) h2 h3 ?_ b' hb
            unfold tagOf at ha
            split at ha <;> simp at ha
            rename_i hu
            exact run_equalIn_bool' w d f.type a1 b1 hu
        · cases he

section
variable {P : Program} {n : Nat} {env : Env} {S : World → Prop} {o : Oper}
theorem run_equal_tags {t : Nat} {ts : List Nat} {xs ys : List Value} {b : Bool} (ht : tagsOf P t = some ts) (he : eqTags ts xs ys = some b) (d : Nat) (w : World) : (Op.equalIn (d + 2) t (.agg xs.toArray) (.agg ys.toArray)).run P w = .ok b w ∧ P.eqGuardType P.depth t = false := by
  unfold tagsOf at ht
  split at ht
  case h_2 => cases ht
  case h_1 fs hu =>
    split at ht
    case isFalse => cases ht
    case isTrue hc =>
      have hf : P.fieldsOf t = fs := by simp [Program.fieldsOf, hu]
      refine ⟨?_, hc.2⟩
      rw [run_equalIn_struct w (d + 1) t _ _ (by rw [hf]; exact hu) hc.1, hf]
      exact run_eqFields_tags d _ _ _ ts 0 b w ht (by simpa using he)
theorem y_eqst {x y : Operand} {t u : Nat} {ts : List Nat} {xs ys : List Value} {b : Bool} (ho : o.op = .binOp .eql t x y u) (hx : env.ev x = some (.agg xs.toArray)) (hy : env.ev y = some (.agg ys.toArray)) (ht : tagsOf P t = some ts) (he : eqTags ts xs ys = some b) : Yld P n env S o (.bool b) := fun a r w _ => by
  obtain ⟨h, hg⟩ := run_equal_tags ht he 9998 w
  have hge := run_eqGuard_agg (P := P) w .eql t x y xs.toArray ys.toArray hg
  unfold execOp
  simp only [ho, r.eval hx, r.eval hy, Sem.run_bind, hge, Result.andThen_ok, binOp]
  simp only [Op.equal, Op.maxDepth, h, Result.andThen_ok]
  rfl
theorem y_nest {x y : Operand} {t u : Nat} {ts : List Nat} {xs ys : List Value} {b : Bool} (ho : o.op = .binOp .neq t x y u) (hx : env.ev x = some (.agg xs.toArray)) (hy : env.ev y = some (.agg ys.toArray)) (ht : tagsOf P t = some ts) (he : eqTags ts xs ys = some b) : Yld P n env S o (.bool !b) := fun a r w _ => by
  obtain ⟨h, hg⟩ := run_equal_tags ht he 9998 w
  have hge := run_eqGuard_agg (P := P) w .neq t x y xs.toArray ys.toArray hg
  unfold execOp
  simp only [ho, r.eval hx, r.eval hy, Sem.run_bind, hge, Result.andThen_ok, binOp]
  simp only [Op.equal, Op.maxDepth, h, Result.andThen_ok]
  rfl
end
end Go.Proofs.Ytikdpkhcegjmfaa

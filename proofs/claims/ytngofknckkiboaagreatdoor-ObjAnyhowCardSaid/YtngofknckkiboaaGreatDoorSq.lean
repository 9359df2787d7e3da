/- '==' between two struct values whose fields are numbers, strings and bools. -/
import Derived.Test.YtngofknckkiboaaGreatDoorSp
import Derived.Laws.StructEq
namespace Go.Proofs.YtngofknckkiboaaGreatDoor
open Go.RowKit

/-- 0: a number; 1: a string; 2: a bool. -/
def tagOf (P : Program) (t : Nat) : Option Nat := match P.underlying t with
  | some (.int _) => some 0
  | some .string => some 1
  | some .bool => some 2
  | _ => none
def tagsL (P : Program) : Nat → List Field → Option (List Nat)
  | _, [] => some []
  | k, f :: fs => if f.offset = k ∧ f.name ≠ "_" then match tagOf P f.type, tagsL P (k + 1) fs with
    | some a, some r => some (a :: r)
    | _, _ => none else none
def tagsOf (P : Program) (t : Nat) : Option (List Nat) := match P.underlying t with
  | some (.struct fs) => if P.stoodInHeld t = false ∧ P.eqGuardType P.depth t = false then tagsL P 0 fs.toList else none
  | _ => none
def eqTags : List Nat → List Value → List Value → Option Bool
  | [], [], [] => some true
  | 0 :: ts, .int k a :: xs, .int k' b :: ys => if k = k' then (eqTags ts xs ys).map ((a == b) && ·) else none
  | 1 :: ts, .string a :: xs, .string b :: ys => (eqTags ts xs ys).map ((a.data.toList == b.data.toList) && ·)
  | 2 :: ts, .bool a :: xs, .bool b :: ys => (eqTags ts xs ys).map ((a == b) && ·)
  | _, _, _ => none

theorem tagOf_plain {P : Program} {t a : Nat} (h : tagOf P t = some a) (w : World) : (isAgg t).run P w = .ok false w := by
  unfold tagOf at h
  cases hu : P.underlying t with
  | none => simp [hu] at h
  | some d =>
    unfold isAgg
    simp only [Sem.run_bind, run_underlying hu, Result.andThen_ok]
    cases d <;> simp [hu] at h <;> rfl
theorem run_part1 {P : Program} {t a : Nat} (h : tagOf P t = some a) {cs : Array Value} {k : Nat} {v : Value} (hv : cs[k]? = some v) (w : World) : (part t cs k).run P w = .ok v w := by
  simp [part, tagOf_plain h w, hv]

theorem drop_cons_get {α : Type} {l r : List α} {k : Nat} {x : α} (h : l.drop k = x :: r) : l[k]? = some x ∧ l.drop (k + 1) = r := by
  refine ⟨?_, ?_⟩
  · have := congrArg (·[0]?) h
    simpa using this
  · rw [← List.drop_drop, h]; rfl

theorem run_eqFields_tags {P : Program} (d : Nat) (xs ys : Array Value) : ∀ (fs : List Field) (ts : List Nat) (k : Nat) (b : Bool) (w : World), tagsL P k fs = some ts → eqTags ts (xs.toList.drop k) (ys.toList.drop k) = some b → (Op.eqFields (d + 1) xs ys fs).run P w = .ok b w
  | [], ts, k, b, w, ht, he => by
    simp only [tagsL, Option.some.injEq] at ht
    subst ht
    unfold eqTags at he
    split at he <;> simp_all [Op.eqFields]
  | f :: fs, ts, k, b, w, ht, he => by
    unfold tagsL at ht
    split at ht
    case isFalse => cases ht
    case isTrue hc =>
      split at ht
      case h_2 => cases ht
      case h_1 a r ha hr =>
        simp only [Option.some.injEq] at ht
        subst ht
        have hcmp : ∀ (x y : Value) (xr yr : List Value) (c : Bool), xs.toList.drop k = x :: xr → ys.toList.drop k = y :: yr → (Op.equalIn (d + 1) f.type x y).run P w = .ok c w → ∀ b', eqTags r xr yr = some b' → (Op.eqFields (d + 1) xs ys (f :: fs)).run P w = .ok (c && b') w := by
          intro x y xr yr c hx hy hq b' hb'
          obtain ⟨gx, dx⟩ := drop_cons_get hx
          obtain ⟨gy, dy⟩ := drop_cons_get hy
          have ih := run_eqFields_tags d xs ys fs r (k + 1) b' w hr (by rw [dx, dy]; exact hb')
          have px : (part f.type xs f.offset).run P w = .ok x w := run_part1 ha (by rw [hc.1]; simpa using gx) w
          have py : (part f.type ys f.offset).run P w = .ok y w := run_part1 ha (by rw [hc.1]; simpa using gy) w
          unfold Op.eqFields
          rw [if_pos hc.2]
          simp only [Sem.run_bind, px, py, Result.andThen_ok, hq]
          cases c
          · simp
          · simpa using ih
        have hk : ∀ a', a = a' → tagOf P f.type = some a' := fun a' e => e ▸ ha
        unfold eqTags at he
        split at he
        · simp_all
        · rename_i ts' k1 a1 xr k2 b1 yr h1 h2 h3
          simp only [List.cons.injEq] at h1
          obtain ⟨rfl, rfl⟩ := h1
          split at he
          · rename_i hkk
            subst hkk
            cases hb : eqTags r xr yr with
            | none => simp [hb] at he
            | some b' =>
              simp only [hb, Option.map_some, Option.some.injEq] at he
              rw [← he]
              refine hcmp _ _ xr yr (a1 == b1) h2 h3 ?_ b' hb
              unfold tagOf at ha
              split at ha <;> simp at ha
              rename_i kk hu
              exact run_equalIn_int w d f.type k1 kk a1 b1 hu
          · cases he
        · rename_i ts' a1 xr b1 yr h1 h2 h3
          simp only [List.cons.injEq] at h1
          obtain ⟨rfl, rfl⟩ := h1
          cases hb : eqTags r xr yr with
          | none => simp [hb] at he
          | some b' =>
            simp only [hb, Option.map_some, Option.some.injEq] at he
            rw [← he]
            refine hcmp _ _ xr yr (a1.data.toList == b1.data.toList) h2 h3 ?_ b' hb
            unfold tagOf at ha
            split at ha <;> simp at ha
            rename_i hu
            rw [run_equalIn_string w d f.type a1 b1 hu, ByteArray.toList_eq, ByteArray.toList_eq]
        · rename_i ts' a1 xr b1 yr h1 h2 h3
          simp only [List.cons.injEq] at h1
          obtain ⟨rfl, rfl⟩ := h1
          cases hb : eqTags r xr yr with
          | none => simp [hb] at he
          | some b' =>
            simp only [hb, Option.map_some, Option.some.injEq] at he
            rw [← he]
            refine hcmp _ _ xr yr (a1 == b1) h2 h3 ?_ b' hb
            unfold tagOf at ha
            split at ha <;> simp at ha
            rename_i hu
            exact run_equalIn_bool' w d f.type a1 b1 hu
        · cases he

section
variable [Dfs] {P : Program} {n : Nat} {env : Env} {S : World → Prop} {o : Oper}
omit [Dfs] in
theorem run_equal_tags {t : Nat} {ts : List Nat} {xs ys : List Value} {b : Bool} (ht : tagsOf P t = some ts) (he : eqTags ts xs ys = some b) (d : Nat) (w : World) : (Op.equalIn (d + 2) t (.agg xs.toArray) (.agg ys.toArray)).run P w = .ok b w ∧ P.eqGuardType P.depth t = false := by
  unfold tagsOf at ht
  split at ht
  case h_2 => cases ht
  case h_1 fs hu =>
    split at ht
    case isFalse => cases ht
    case isTrue hc =>
      have hf : P.fieldsOf t = fs := by simp [Program.fieldsOf, hu]
      refine ⟨?_, hc.2⟩
      rw [run_equalIn_struct w (d + 1) t _ _ (by rw [hf]; exact hu) hc.1, hf]
      exact run_eqFields_tags d _ _ _ ts 0 b w ht (by simpa using he)
theorem y_eqst {x y : Operand} {t u : Nat} {ts : List Nat} {xs ys : List Value} {b : Bool} (ho : o.op = .binOp .eql t x y u) (hx : env.ev x = some (.agg xs.toArray)) (hy : env.ev y = some (.agg ys.toArray)) (ht : tagsOf P t = some ts) (he : eqTags ts xs ys = some b) : Yld P n env S o (.bool b) := fun a r w _ => by
  obtain ⟨h, hg⟩ := run_equal_tags ht he 9998 w
  have hge := run_eqGuard_agg (P := P) w .eql t x y xs.toArray ys.toArray hg
  unfold execOp
  simp only [ho, r.eval hx, r.eval hy, Sem.run_bind, hge, Result.andThen_ok, binOp]
  simp only [Op.equal, Op.maxDepth, h, Result.andThen_ok]
  rfl
theorem y_nest {x y : Operand} {t u : Nat} {ts : List Nat} {xs ys : List Value} {b : Bool} (ho : o.op = .binOp .neq t x y u) (hx : env.ev x = some (.agg xs.toArray)) (hy : env.ev y = some (.agg ys.toArray)) (ht : tagsOf P t = some ts) (he : eqTags ts xs ys = some b) : Yld P n env S o (.bool !b) := fun a r w _ => by
  obtain ⟨h, hg⟩ := run_equal_tags ht he 9998 w
  have hge := run_eqGuard_agg (P := P) w .neq t x y xs.toArray ys.toArray hg
  unfold execOp
  simp only [ho, r.eval hx, r.eval hy, Sem.run_bind, hge, Result.andThen_ok, binOp]
  simp only [Op.equal, Op.maxDepth, h, Result.andThen_ok]
  rfl
end
/-! ### arrays of bytes; nil -/
theorem run_equalIn_arr {P : Program} {t e len : Nat} {k : IntKind} (ht : P.underlying t = some (.array len e)) (he : P.underlying e = some (.int k)) (hs : (P.info? e).map (·.size) = some 1) (r r' : List UInt8) (h1 : r.length = len) (h2 : r'.length = len) (d : Nat) (w : World) :
    (Op.equalIn (d + 2) t (.agg (r.map bv).toArray) (.agg (r'.map bv).toArray)).run P w = .ok (r == r') w := by
  have htag : tagOf P e = some 0 := by simp [tagOf, he]
  have key : ∀ (m j : Nat), j + m = len → (forIn (List.range' j m) ((none : Option Bool), ()) (fun i _ => do
      let a ← part e (r.map bv).toArray (i * 1)
      let b ← part e (r'.map bv).toArray (i * 1)
      let c ← Op.equalIn (d + 1) e a b
      if (!c) = true then pure (ForInStep.done (some false, ())) else pure (ForInStep.yield (none, ()))) : Sem (Option Bool × Unit)).run P w = .ok (if r.drop j = r'.drop j then (none, ()) else (some false, ())) w := by
    intro m
    induction m with
    | zero =>
      intro j hj
      rw [List.drop_of_length_le (by omega), List.drop_of_length_le (by omega)]
      simp
    | succ m ih =>
      intro j hj
      have l1 : j < r.length := by omega
      have l2 : j < r'.length := by omega
      have p1 : (part e (r.map bv).toArray (j * 1)).run P w = .ok (bv r[j]) w := run_part1 htag (by simp [l1]) w
      have p2 : (part e (r'.map bv).toArray (j * 1)).run P w = .ok (bv r'[j]) w := run_part1 htag (by simp [l2]) w
      have p3 := run_equalIn_int (P := P) w d e .u8 k (r[j].toNat : Int) (r'[j].toNat : Int) he
      rw [List.range'_succ, List.forIn_cons]
      simp only [Sem.run_bind, p1, p2, Result.andThen_ok, bv, p3]
      have d1 := List.drop_eq_getElem_cons l1
      have d2 := List.drop_eq_getElem_cons l2
      by_cases hq : r[j] = r'[j]
      · have hb : ((r[j].toNat : Int) == (r'[j].toNat : Int)) = true := by simp [hq]
        simp only [hb, Bool.not_true, Bool.false_eq_true, if_false, Sem.run_pure, Result.andThen_ok]
        rw [ih (j + 1) (by omega)]
        have hiff : (r.drop j = r'.drop j) ↔ (r.drop (j + 1) = r'.drop (j + 1)) := by
          rw [d1, d2, hq]
          exact ⟨fun h => (List.cons.inj h).2, fun h => by rw [h]⟩
        simp only [hiff]
      · have hb : ((r[j].toNat : Int) == (r'[j].toNat : Int)) = false := by
          rw [beq_eq_false_iff_ne]
          intro e
          exact hq (UInt8.toNat_inj.1 (by omega))
        simp only [hb, Bool.not_false, if_true, Sem.run_pure, Result.andThen_ok]
        have hne : ¬ (r.drop j = r'.drop j) := by
          rw [d1, d2]
          intro h
          exact hq (List.cons.inj h).1
        simp only [hne, if_false]
  have h := key len 0 (by omega)
  unfold Op.equalIn
  simp only [Sem.run_bind, run_underlying ht, Result.andThen_ok, run_sizeOf hs]
  rw [Std.Legacy.Range.forIn_eq_forIn_range']
  simp only [Std.Legacy.Range.size, Nat.sub_zero, Nat.add_one_sub_one, Nat.div_one]
  rw [h]
  simp only [List.drop_zero]
  by_cases hq : r = r'
  · simp [hq]
  · simp [hq]
section
variable [Dfs] {P : Program} {n : Nat} {env : Env} {S : World → Prop} {o : Oper}
/-- '!=' between two arrays of bytes. -/
theorem y_nearr {x y : Operand} {t u e len : Nat} {k : IntKind} {r r' : List UInt8} (ho : o.op = .binOp .neq t x y u) (hx : env.ev x = some (.agg (r.map bv).toArray)) (hy : env.ev y = some (.agg (r'.map bv).toArray)) (ht : P.underlying t = some (.array len e)) (he : P.underlying e = some (.int k)) (hs : (P.info? e).map (·.size) = some 1)
    (hg : P.eqGuardType P.depth t = false) (h1 : r.length = len) (h2 : r'.length = len) : Yld P n env S o (.bool (r != r')) := fun a ra w _ => by
  have h := run_equalIn_arr ht he hs r r' h1 h2 9998 w
  have hge := run_eqGuard_agg (P := P) w .neq t x y (r.map bv).toArray (r'.map bv).toArray hg
  unfold execOp
  simp only [ho, ra.eval hx, ra.eval hy, Sem.run_bind, hge, Result.andThen_ok, binOp]
  simp only [Op.equal, Op.maxDepth, h, Result.andThen_ok]
  rfl
theorem y_eqnl {x y : Operand} {t u e l c l' c' : Nat} {A : Option Addr} (ho : o.op = .binOp .eql t x y u) (hx : env.ev x = some (.slice A l c)) (hy : env.ev y = some (.slice none l' c')) (ht : P.underlying t = some (.slice e)) : Yld P n env S o (.bool A.isNone) := fun a ra w _ => by
  have h : ∀ d : Nat, (Op.equalIn (d + 1) t (.slice A l c) (.slice none l' c')).run P w = .ok A.isNone w := fun d => by
    unfold Op.equalIn; cases A <;> simp [run_underlying ht]
  unfold execOp
  simp only [ho, ra.eval hx, ra.eval hy, eqGuard, binOp]
  simp [Op.equal, Op.maxDepth, h 9999]
theorem y_eqnp {x y : Operand} {t u e : Nat} {A : Option Addr} (ho : o.op = .binOp .eql t x y u) (hx : env.ev x = some (.pointer A)) (hy : env.ev y = some (.pointer none)) (ht : P.underlying t = some (.pointer e)) : Yld P n env S o (.bool A.isNone) := fun a ra w _ => by
  have h : ∀ d : Nat, (Op.equalIn (d + 1) t (.pointer A) (.pointer none)).run P w = .ok A.isNone w := fun d => by
    unfold Op.equalIn; cases A <;> simp [run_underlying ht]
  unfold execOp
  simp only [ho, ra.eval hx, ra.eval hy, eqGuard, binOp]
  simp [Op.equal, Op.maxDepth, h 9999]
theorem y_nenp {x y : Operand} {t u e : Nat} {A : Option Addr} (ho : o.op = .binOp .neq t x y u) (hx : env.ev x = some (.pointer A)) (hy : env.ev y = some (.pointer none)) (ht : P.underlying t = some (.pointer e)) : Yld P n env S o (.bool A.isSome) := fun a ra w _ => by
  have h : ∀ d : Nat, (Op.equalIn (d + 1) t (.pointer A) (.pointer none)).run P w = .ok A.isNone w := fun d => by
    unfold Op.equalIn; cases A <;> simp [run_underlying ht]
  unfold execOp
  simp only [ho, ra.eval hx, ra.eval hy, eqGuard, binOp]
  simp [Op.equal, Op.maxDepth, h 9999]
end

/-! ### contracts that make or change memory -/
/-- New memory H1; all else is as it was. -/
structure New (w w' : World) (H1 : Heap) : Prop where
  fr : Fr [] w w'
  hp : Hp w' H1
  nw : ∀ k ∈ keys H1, w.heap.size ≤ k
/-- What was Hx is now H1. -/
structure Mod (w w' : World) (Hx H1 : Heap) : Prop where
  fr : Fr (keys Hx) w w'
  hp : Hp w' H1
  nw : ∀ k ∈ keys H1, k ∈ keys Hx ∨ w.heap.size ≤ k
theorem Hp.add {w w' : World} {H H1 : Heap} (h : Hp w H) (m : New w w' H1) : Hp w' (H ++ H1) :=
  Hp.after (Hx := []) (X := []) (by simpa using h) (by simp) m.fr m.hp fun k hk => .inr (m.nw k hk)
theorem pickL_append (H : Heap) : ∀ (a b : List Nat), pickL H (a ++ b) = pickL H a ++ pickL H b
  | [], b => rfl
  | i :: a, b => by
    simp only [List.cons_append, pickL, pickL_append H a b]
    cases H[i]? <;> rfl
theorem Hp.call {w w' : World} {H H1 Hx : Heap} (h : Hp w H) (others idx : List Nat) (hn : (others ++ idx).Nodup) (hx : pickL H idx = Hx) (m : Mod w w' Hx H1) : Hp w' (pickL H others ++ H1) := by
  have h1 := h.picks (others ++ idx) hn
  rw [pickL_append, hx] at h1
  exact Hp.after h1 (fun _ h => h) m.fr m.hp m.nw
theorem Hp.addNone {w : World} {H : Heap} (h : Hp w H) (o : Obj) : Hp w (H ++ [(none, o)]) := Hp.after (Hx := []) (X := []) (by simpa using h) (by simp) (Fr.refl _ _) (⟨fun i g o' hi => by
    match i, hi with
    | 0, hi => simp at hi
    | i + 1, hi => simp at hi, fun i j g o' o'' hi => by
    match i, hi with
    | 0, hi => simp at hi
    | i + 1, hi => simp at hi⟩ : Hp w [(none, o)]) (by simp [keys])
/-- A slice of new memory. -/
def SlNew (w w' : World) (e m l : Nat) (xs : List Value) (v : Value) : Prop := ∃ A c sp, v = .slice A l c ∧ Ow A l c m xs sp ∧ New w w' [(blkOf A, Cl (xs ++ sp) e)]
theorem New.refl (w : World) : New w w [] := ⟨Fr.refl _ _, Hp.nil w, by simp [keys]⟩
theorem New.drew {w w' : World} {H1 : Heap} (h : New w w' H1) : New w w'.drew H1 := ⟨h.fr.step0 (Fr.drew _), h.hp.drew, h.nw⟩
end Go.Proofs.YtngofknckkiboaaGreatDoor

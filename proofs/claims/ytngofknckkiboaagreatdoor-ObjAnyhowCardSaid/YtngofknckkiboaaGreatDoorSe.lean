/- '==' between struct values, to whatever depth. -/
import Derived.Test.YtngofknckkiboaaGreatDoorSt
import Derived.ChangeKeysEq
set_option linter.unusedVariables false
set_option linter.unusedSimpArgs false
namespace Go.Proofs.YtngofknckkiboaaGreatDoor
open Go.RowKit

def eqFs (P : Program) (rc : TypeId → List Value → List Value → Option Bool) : List Field → List Value → List Value → Option Bool
  | [], _, _ => some true
  | f :: fs, xs, ys => if f.name ≠ "_" then match (P.info? f.type).map (·.size) with
    | some k => match rc f.type ((xs.drop f.offset).take k) ((ys.drop f.offset).take k), eqFs P rc fs xs ys with
      | some a, some b => some (a && b)
      | _, _ => none
    | none => none else none
def eqIs (rc : List Value → List Value → Option Bool) (k : Nat) : List Nat → List Value → List Value → Option Bool
  | [], _, _ => some true
  | i :: is, xs, ys => match rc ((xs.drop (i * k)).take k) ((ys.drop (i * k)).take k), eqIs rc k is xs ys with
    | some a, some b => some (a && b)
    | _, _ => none
def eqVals (P : Program) : Nat → TypeId → List Value → List Value → Option Bool
  | 0, _, _, _ => none
  | d + 1, t, xs, ys => match P.underlying t with
    | some (.int _) => match xs, ys with
      | [.int k a], [.int k' b] => if k = k' then some (a == b) else none
      | _, _ => none
    | some .string => match xs, ys with
      | [.string a], [.string b] => some (a.data.toList == b.data.toList)
      | _, _ => none
    | some .bool => match xs, ys with
      | [.bool a], [.bool b] => some (a == b)
      | _, _ => none
    | some (.struct fs) => if P.stoodInHeld t = false ∧ xs.length = P.cellsOf t ∧ ys.length = P.cellsOf t then eqFs P (eqVals P d) fs.toList xs ys else none
    | some (.array n e) => if 0 < n ∧ xs.length = P.cellsOf t ∧ ys.length = P.cellsOf t then eqIs (eqVals P d e) (P.cellsOf e) (List.range n) xs ys else none
    | _ => none
/-- The value that some cells are, at a type. -/
def valOf (P : Program) (t : TypeId) (cs : List Value) (v : Value) : Prop := match P.underlying t with
  | some (.struct _) | some (.array _ _) => v = .agg cs.toArray
  | _ => cs = [v]

theorem run_part_val {P : Program} {t k : Nat} {xs : List Value} {off : Nat} (hk : (P.info? t).map (·.size) = some k) (w : World) (hne : ∀ d : TypeDesc, P.underlying t = some d → (match d with | .struct _ | .array _ _ => True | _ => ∃ v, (xs.drop off).take k = [v])) (hu : ∃ d, P.underlying t = some d) :
    ∃ v, (part t xs.toArray off).run P w = .ok v w ∧ valOf P t ((xs.drop off).take k) v := by
  obtain ⟨d, hd⟩ := hu
  have h1 := hne d hd
  have hz := run_sizeOf hk w
  by_cases ha : (∃ fs, d = .struct fs) ∨ (∃ n e, d = .array n e)
  · refine ⟨.agg ((xs.drop off).take k).toArray, ?_, ?_⟩
    · have hA : (isAgg t).run P w = .ok true w := by
        unfold isAgg
        simp only [Sem.run_bind, run_underlying hd, Result.andThen_ok]
        rcases ha with ⟨fs, rfl⟩ | ⟨n, e, rfl⟩ <;> rfl
      have he : xs.toArray.extract off (off + k) = ((xs.drop off).take k).toArray := by rw [List.extract_toArray, List.extract]; simp
      simp [part, hA, hz]
    · unfold valOf
      rw [hd]
      rcases ha with ⟨fs, rfl⟩ | ⟨n, e, rfl⟩ <;> rfl
  · have h2 : ∃ v, (xs.drop off).take k = [v] := by
      cases d <;> first | exact h1 | (exact absurd (.inl ⟨_, rfl⟩) ha) | (exact absurd (.inr ⟨_, _, rfl⟩) ha)
    obtain ⟨v, hv⟩ := h2
    refine ⟨v, ?_, ?_⟩
    · have hA : (isAgg t).run P w = .ok false w := by
        unfold isAgg
        simp only [Sem.run_bind, run_underlying hd, Result.andThen_ok]
        cases d <;> first | rfl | (exact absurd (.inl ⟨_, rfl⟩) ha) | (exact absurd (.inr ⟨_, _, rfl⟩) ha)
      have hg : xs.toArray[off]? = some v := by
        have : ((xs.drop off).take k)[0]? = some v := by rw [hv]; rfl
        rw [List.getElem?_take] at this
        split at this
        · simpa using this
        · cases this
      simp [part, hA, hg]
    · unfold valOf
      rw [hd]
      cases d <;> first | exact hv | (exact absurd (.inl ⟨_, rfl⟩) ha) | (exact absurd (.inr ⟨_, _, rfl⟩) ha)

theorem eqVals_one {P : Program} {d : Nat} {t : TypeId} {xs ys : List Value} {b : Bool} (h : eqVals P d t xs ys = some b) : (∃ dd, P.underlying t = some dd) ∧ ∀ dd : TypeDesc, P.underlying t = some dd → (match dd with | .struct _ | .array _ _ => True | _ => ∃ v, xs = [v]) ∧ (match dd with | .struct _ | .array _ _ => True | _ => ∃ v, ys = [v]) := by
  cases d with
  | zero => cases h
  | succ d =>
    unfold eqVals at h
    split at h
    · rename_i k hu
      refine ⟨⟨_, hu⟩, fun dd e => ?_⟩
      rw [hu] at e; injection e with e; subst e
      split at h
      · exact ⟨⟨_, rfl⟩, _, rfl⟩
      · cases h
    · rename_i hu
      refine ⟨⟨_, hu⟩, fun dd e => ?_⟩
      rw [hu] at e; injection e with e; subst e
      split at h
      · exact ⟨⟨_, rfl⟩, _, rfl⟩
      · cases h
    · rename_i hu
      refine ⟨⟨_, hu⟩, fun dd e => ?_⟩
      rw [hu] at e; injection e with e; subst e
      split at h
      · exact ⟨⟨_, rfl⟩, _, rfl⟩
      · cases h
    · rename_i hu
      refine ⟨⟨_, hu⟩, fun dd e => ?_⟩
      rw [hu] at e; injection e with e; subst e
      exact ⟨trivial, trivial⟩
    · rename_i hu
      refine ⟨⟨_, hu⟩, fun dd e => ?_⟩
      rw [hu] at e; injection e with e; subst e
      exact ⟨trivial, trivial⟩
    · cases h

theorem run_eqVals {P : Program} : ∀ (d : Nat) (t : TypeId) (xs ys : List Value) (b : Bool), eqVals P d t xs ys = some b → ∀ (x y : Value), valOf P t xs x → valOf P t ys y → ∀ (k : Nat) (w : World), (Op.equalIn (k + d) t x y).run P w = .ok b w
  | 0, t, xs, ys, b, h, x, y, hx, hy, k, w => by cases h
  | d + 1, t, xs, ys, b, h, x, y, hx, hy, k, w => by
    unfold eqVals at h
    unfold valOf at hx hy
    split at h
    · rename_i kk hu
      rw [hu] at hx hy
      simp only at hx hy
      subst hx; subst hy
      split at h
      · rename_i k1 a k2 b1 h1 h2
        simp only [List.cons.injEq, and_true] at h1 h2
        subst h1; subst h2
        split at h
        · rename_i e; subst e
          injection h with h
          subst h
          exact run_equalIn_int w (k + d) t k1 kk a b1 hu
        · cases h
      · cases h
    · rename_i hu
      rw [hu] at hx hy
      simp only at hx hy
      subst hx; subst hy
      split at h
      · rename_i a b1 h1 h2
        simp only [List.cons.injEq, and_true] at h1 h2
        subst h1; subst h2
        injection h with h
        subst h
        have := run_equalIn_string w (k + d) t a b1 hu
        rw [ByteArray.toList_eq, ByteArray.toList_eq] at this
        exact this
      · cases h
    · rename_i hu
      rw [hu] at hx hy
      simp only at hx hy
      subst hx; subst hy
      split at h
      · rename_i a b1 h1 h2
        simp only [List.cons.injEq, and_true] at h1 h2
        subst h1; subst h2
        injection h with h
        subst h
        exact run_equalIn_bool' w (k + d) t a b1 hu
      · cases h
    · rename_i fs hu
      rw [hu] at hx hy
      simp only at hx hy
      subst hx; subst hy
      split at h
      · rename_i hc
        have hf : P.fieldsOf t = fs := by simp [Program.fieldsOf, hu]
        rw [show k + (d + 1) = (k + d) + 1 from rfl, run_equalIn_struct w (k + d) t _ _ (by rw [hf]; exact hu) hc.1, hf]
        have key : ∀ (fs : List Field) (b : Bool), eqFs P (eqVals P d) fs xs ys = some b → (Op.eqFields (k + d) xs.toArray ys.toArray fs).run P w = .ok b w := by
          intro fs
          induction fs with
          | nil => intro b hb; simp only [eqFs, Option.some.injEq] at hb; subst hb; simp [Op.eqFields]
          | cons f fs ih =>
            intro b hb
            unfold eqFs at hb
            split at hb
            · rename_i hn
              split at hb
              · rename_i sz hsz
                split at hb
                · rename_i a1 b1 ha hb1
                  injection hb with hb
                  subst hb
                  obtain ⟨hex, hone⟩ := eqVals_one ha
                  obtain ⟨vx, px, qx⟩ := run_part_val (xs := xs) (off := f.offset) hsz w (fun dd e => (hone dd e).1) hex
                  obtain ⟨vy, py, qy⟩ := run_part_val (xs := ys) (off := f.offset) hsz w (fun dd e => (hone dd e).2) hex
                  have hq := run_eqVals d f.type _ _ a1 ha vx vy qx qy k w
                  have hih := ih b1 hb1
                  unfold Op.eqFields
                  rw [if_pos hn]
                  simp only [Sem.run_bind, px, py, Result.andThen_ok, hq]
                  cases a1
                  · simp
                  · simpa using hih
                · cases hb
              · cases hb
            · cases hb
        exact key _ _ h
      · cases h
    · rename_i n e hu
      rw [hu] at hx hy
      simp only at hx hy
      subst hx; subst hy
      split at h
      · rename_i hc
        have hinfo : ∃ i, P.info? e = some i := by
          obtain ⟨n', rfl⟩ : ∃ q, n = q + 1 := ⟨n - 1, by omega⟩
          rw [List.range_succ_eq_map] at h
          unfold eqIs at h
          split at h
          · rename_i a1 b1 ha _
            obtain ⟨⟨dd, hdd⟩, _⟩ := eqVals_one ha
            exact info_of_underlying hdd
          · cases h
        have key : ∀ (i : TypeInfo), P.info? e = some i → ∀ (is : List Nat) (b : Bool), eqIs (eqVals P d e) (P.cellsOf e) is xs ys = some b → (Op.eqItems (k + d) e (P.cellsOf e) xs.toArray ys.toArray is).run P w = .ok b w := by
          intro inf hi is
          induction is with
          | nil => intro b hb; simp only [eqIs, Option.some.injEq] at hb; subst hb; simp [Op.eqItems]
          | cons i is ih =>
            intro b hb
            unfold eqIs at hb
            split at hb
            · rename_i a1 b1 ha hb1
              injection hb with hb
              subst hb
              have hsz : (P.info? e).map (·.size) = some (P.cellsOf e) := by simp [Program.cellsOf, hi]
              obtain ⟨hex, hone⟩ := eqVals_one ha
              obtain ⟨vx, px, qx⟩ := run_part_val (xs := xs) (off := i * P.cellsOf e) hsz w (fun dd e => (hone dd e).1) hex
              obtain ⟨vy, py, qy⟩ := run_part_val (xs := ys) (off := i * P.cellsOf e) hsz w (fun dd e => (hone dd e).2) hex
              have hq := run_eqVals d e _ _ a1 ha vx vy qx qy k w
              have hih := ih b1 hb1
              unfold Op.eqItems
              simp only [Sem.run_bind, px, py, Result.andThen_ok, hq]
              cases a1
              · simp
              · simpa using hih
            · cases hb
        obtain ⟨i, hi⟩ := hinfo
        rw [show k + (d + 1) = (k + d) + 1 from rfl, run_equalIn_array w (k + d) _ _ hu hi]
        exact key i hi _ _ h
      · cases h
    · cases h
section
variable [Dfs] {P : Program} {n : Nat} {env : Env} {S : World → Prop} {o : Oper}
theorem y_eqv {x y : Operand} {t u : Nat} {xs ys : List Value} {b : Bool} (ho : o.op = .binOp .eql t x y u) (hx : env.ev x = some (.agg xs.toArray)) (hy : env.ev y = some (.agg ys.toArray)) (hg : P.eqGuardType P.depth t = false) (hv : aggSize P t ≠ none) (he : eqVals P 8 t xs ys = some b) : Yld P n env S o (.bool b) := fun a r w _ => by
  have hval : ∀ cs : List Value, valOf P t cs (.agg cs.toArray) := fun cs => by
    unfold valOf; unfold aggSize at hv
    cases hu : P.underlying t with
    | none => simp [hu] at hv
    | some d => cases d <;> first | rfl | (simp [hu] at hv; done)
  have h := run_eqVals 8 t xs ys b he _ _ (hval xs) (hval ys) 9992 w
  have hge := run_eqGuard_agg (P := P) w .eql t x y xs.toArray ys.toArray hg
  unfold execOp
  simp only [ho, r.eval hx, r.eval hy, Sem.run_bind, hge, Result.andThen_ok, binOp]
  simp only [Op.equal, Op.maxDepth, h, Result.andThen_ok]
  rfl
theorem y_nev {x y : Operand} {t u : Nat} {xs ys : List Value} {b : Bool} (ho : o.op = .binOp .neq t x y u) (hx : env.ev x = some (.agg xs.toArray)) (hy : env.ev y = some (.agg ys.toArray)) (hg : P.eqGuardType P.depth t = false) (hv : aggSize P t ≠ none) (he : eqVals P 8 t xs ys = some b) : Yld P n env S o (.bool !b) := fun a r w _ => by
  have hval : ∀ cs : List Value, valOf P t cs (.agg cs.toArray) := fun cs => by
    unfold valOf; unfold aggSize at hv
    cases hu : P.underlying t with
    | none => simp [hu] at hv
    | some d => cases d <;> first | rfl | (simp [hu] at hv; done)
  have h := run_eqVals 8 t xs ys b he _ _ (hval xs) (hval ys) 9992 w
  have hge := run_eqGuard_agg (P := P) w .neq t x y xs.toArray ys.toArray hg
  unfold execOp
  simp only [ho, r.eval hx, r.eval hy, Sem.run_bind, hge, Result.andThen_ok, binOp]
  simp only [Op.equal, Op.maxDepth, h, Result.andThen_ok]
  rfl
end
/-! ### function values -/
def FnV (P : Program) (fv : Value) (args : List Value) (w : World) (Post : Value → World → Prop) : Prop := ∃ (f : FuncId) (fi ca : List Value), fv = .func (.func f) fi.toArray ca.toArray ∧ Fn P f (fi ++ (args ++ ca)) w Post
theorem FnV.of {P : Program} {f : FuncId} {args : List Value} {w : World} {Post : Value → World → Prop} (h : Fn P f args w Post) : FnV P (.func (.func f) #[] #[]) args w Post := ⟨f, [], [], rfl, by simpa using h⟩
theorem FnV.ofc {P : Program} {f : FuncId} {args : List Value} {w : World} {Post : Value → World → Prop} (ca : List Value) (h : Fn P f (args ++ ca) w Post) : FnV P (.func (.func f) #[] ca.toArray) args w Post := ⟨f, [], ca, rfl, by simpa using h⟩
section
variable [Dfs] {P : Program} {n : Nat} {env : Env} {w : World} {o : Oper} {K : Env → World → Prop}
theorem a_callv {fx : Operand} {fv : Value} {xs : List Operand} {ts : Array TypeId} {vs : List Value} {Post : Value → World → Prop} (ho : o.op = .call { callee := .value fx, args := xs.toArray, argTypes := ts }) {d : Nat} (hd : o.dst = some d) (hn : Nat.blt d n = true)
    (hfx : env.ev fx = some fv) (hx : env.evs xs = some vs) (hc : FnV P fv vs w Post) (hk : ∀ v w', Post v w' → K ((d, v) :: env) w') : Act1 P n env w o K := fun a r => by
  obtain ⟨f, fi, ca, rfl, hc⟩ := hc
  have e : (xs.toArray.map a.eval) = vs.toArray := by rw [List.map_toArray, r.evals hx]
  have hrun : (execOp a.eval o).run P w = .ok (.enter f (fi ++ (vs ++ ca)).toArray) w := by
    have h1 := hc.1
    unfold entersB at h1
    cases hq : P.funcs[f]? with
    | none => simp [hq] at h1
    | some fn =>
      simp only [hq, Bool.and_eq_true, Bool.not_eq_true', beq_eq_false_iff_ne] at h1
      obtain ⟨h2, h3⟩ := h1
      have h4 : ¬ fn.body = none := by intro hbb; simp [hbb] at h3
      unfold execOp
      simp only [ho, resolve, e, r.eval hfx, Deferred.ofValue, Sem.run_bind, Sem.run_pure, Result.andThen_ok, invoke]
      simp [callFunc, hq, h2, h4]
  unfold Oper.wp
  rw [hrun]
  refine Calls.mono hc.2 fun e w' ⟨v, he, hv⟩ => ?_
  subst he
  have r' := r.put hn v
  rw [← hd] at r'
  exact ⟨_, r', hk v w' hv⟩
end
theorem y_mkfn [Dfs] {P : Program} {n : Nat} {env : Env} {S : World → Prop} {o : Oper} {fn : Go.Fn} {fs cs : List Operand} {vf vc : List Value} (ho : o.op = .makeFunc fn fs.toArray cs.toArray) (hf : env.evs fs = some vf) (hc : env.evs cs = some vc) : Yld P n env S o (.func fn vf.toArray vc.toArray) := fun a r w _ => by
  have e1 : (fs.toArray.map a.eval) = vf.toArray := by rw [List.map_toArray, r.evals hf]
  have e2 : (cs.toArray.map a.eval) = vc.toArray := by rw [List.map_toArray, r.evals hc]
  unfold execOp
  simp only [ho, e1, e2]
  rfl
theorem Sld.isNil {α : Type} {enc : α → List Value} {X : List Nat} {w : World} {A : Option Addr} {c m : Nat} {l : List α} (h : Sld X w A l.length c m (l.flatMap enc)) (hm : 0 < m) (hA : A.isNone = true) : l = [] := by
  have hA : A = none := by simpa using hA
  have := rd_none h.rd hA h.len hm
  exact List.eq_nil_of_length_eq_zero this
theorem ci1 {P B : Prop} [Decidable P] {b : Bool} (h : b = true ↔ B) : ((if P then true else b) = true) ↔ (P ∨ B) := by by_cases p : P <;> simp [p, h]
theorem ci2 {P A : Prop} [Decidable P] {a : Bool} (h : a = true ↔ A) : ((if P then a else false) = true) ↔ (P ∧ A) := by by_cases p : P <;> simp [p, h]
theorem ci3 {P B : Prop} [Decidable P] {b : Bool} (h : b = true ↔ B) : ((if P then false else b) = true) ↔ (¬ P ∧ B) := by by_cases p : P <;> simp [p, h]
theorem ci4 {P A : Prop} [Decidable P] {a : Bool} (h : a = true ↔ A) : ((if P then a else true) = true) ↔ (¬ P ∨ A) := by by_cases p : P <;> simp [p, h]
theorem ci5 {P A B : Prop} [Decidable P] {a b : Bool} (h : a = true ↔ A) (h' : b = true ↔ B) : ((if P then a else b) = true) ↔ ((P ∧ A) ∨ (¬ P ∧ B)) := by by_cases p : P <;> simp [p, h, h']
theorem ci6 {P : Prop} [Decidable P] : ((if P then true else false) = true) ↔ P := by by_cases p : P <;> simp [p]
theorem ci7 {P : Prop} [Decidable P] : ((if P then false else true) = true) ↔ ¬ P := by by_cases p : P <;> simp [p]
theorem bF {b : Bool} (h : b = false) : ¬ (b = true) := by rw [h]; simp
theorem dT {p : Prop} [Decidable p] (h : decide p = true) : p := of_decide_eq_true h
theorem dF {p : Prop} [Decidable p] (h : decide p = false) : ¬ p := of_decide_eq_false h
theorem nT {b : Bool} (h : (!b) = true) : b = false := by simpa using h
theorem nF {b : Bool} (h : (!b) = false) : b = true := by simpa using h
theorem eT {α : Type} [BEq α] [LawfulBEq α] {a b : α} (h : (a == b) = true) : a = b := eq_of_beq h
theorem eF {α : Type} [BEq α] [LawfulBEq α] {a b : α} (h : (a == b) = false) : ¬ a = b := fun e => by subst e; simp at h
theorem neT {α : Type} [BEq α] [LawfulBEq α] {a b : α} (h : (a != b) = true) : ¬ a = b := fun e => by subst e; simp at h
theorem neF {α : Type} [BEq α] [LawfulBEq α] {a b : α} (h : (a != b) = false) : a = b := by simpa using h
section
variable [Dfs] {P : Program} {n : Nat} {ops : Array Oper} {Q : EQ} {l : List Oper} {pl : List (Bool × Nat)} {o : Oper} {env : Env} {w : World} {S : World → Prop} {d i : Nat} {x : Operand} {v : Value}
theorem Lmv (hg : o.guard = none) (hd : o.dst = some d) (hn : Nat.blt d n = true) (ho : o.op = .move x) (hx : env.ev x = some v) (hk : Ls P n ops Q l ((d, v) :: env) w) : Ls P n ops Q (o :: l) env w := Ls_y (wtd0 hg) hd hn (y_move ho hx) hk
theorem Las (hg : o.guard = none) (hd : o.dst = some d) (hn : Nat.blt d n = true) (ho : o.op = .assign x) (hx : env.ev x = some v) (hk : Ls P n ops Q l ((d, v) :: env) w) : Ls P n ops Q (o :: l) env w := Ls_y (wtd0 hg) hd hn (y_assign ho hx) hk
theorem Lex {i : Nat} {vs : Array Value} (hg : o.guard = none) (hd : o.dst = some d) (hn : Nat.blt d n = true) (ho : o.op = .extract x i) (hx : env.ev x = some (.tuple vs)) (hv : vs[i]? = some v) (hk : Ls P n ops Q l ((d, v) :: env) w) : Ls P n ops Q (o :: l) env w := Ls_y (wtd0 hg) hd hn (y_ext ho hx hv) hk
theorem Pmv (hi : ops[i]? = some o) (hg : o.guard = none) (hd : o.dst = some d) (hn : Nat.blt d n = true) (ho : o.op = .move x) (hx : env.ev x = some v) (hk : Pl P n ops S Q pl ((d, v) :: env) w) : Pl P n ops S Q ((true, i) :: pl) env w := Pl_y hi (wtd0 hg) hd hn (y_move ho hx) hk
theorem Pex {j : Nat} {vs : Array Value} (hi : ops[i]? = some o) (hg : o.guard = none) (hd : o.dst = some d) (hn : Nat.blt d n = true) (ho : o.op = .extract x j) (hx : env.ev x = some (.tuple vs)) (hv : vs[j]? = some v) (hk : Pl P n ops S Q pl ((d, v) :: env) w) : Pl P n ops S Q ((true, i) :: pl) env w := Pl_y hi (wtd0 hg) hd hn (y_ext ho hx hv) hk
end
end Go.Proofs.YtngofknckkiboaaGreatDoor

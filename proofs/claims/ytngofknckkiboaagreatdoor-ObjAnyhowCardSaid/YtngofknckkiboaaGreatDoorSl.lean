/- Rules for slices, strings, arrays and struct values. -/
import Derived.Test.YtngofknckkiboaaGreatDoorSz
import Derived.Maps.AppendAt
import Derived.Laws.MakeOwn
import Derived.Laws.BytesArg
namespace Go.Proofs.YtngofknckkiboaaGreatDoor
open Go.RowKit

def elemSize (P : Program) (t : Nat) : Option (Nat × Nat) := match P.underlying t with
  | some (.slice e) => (P.info? e).map fun i => (e, i.size)
  | _ => none
def arrSize (P : Program) (t : Nat) : Option (Nat × Nat) := match P.underlying t with
  | some (.array m e) => (P.info? e).map fun i => (m, i.size)
  | _ => none

theorem elemSize_spec {P : Program} {t e m : Nat} (h : elemSize P t = some (e, m)) : P.underlying t = some (.slice e) ∧ (P.info? e).map (·.size) = some m := by
  unfold elemSize at h
  split at h
  · rename_i e' hu
    cases hq : P.info? e' with
    | none => simp [hq] at h
    | some i =>
      simp [hq] at h
      obtain ⟨rfl, rfl⟩ := h
      exact ⟨hu, by simp [hq]⟩
  · cases h
theorem run_sizeOf {P : Program} {e m : Nat} (h : (P.info? e).map (·.size) = some m) (w : World) : (sizeOf e).run P w = .ok m w := by
  cases hq : P.info? e with
  | none => simp [hq] at h
  | some i => simp [hq] at h; simp [sizeOf, typeInfo, hq, h]
theorem arrSize_spec {P : Program} {t k m : Nat} (h : arrSize P t = some (k, m)) : ∃ e, P.underlying t = some (.array k e) ∧ (P.info? e).map (·.size) = some m := by
  unfold arrSize at h
  split at h
  · rename_i k' e' hu
    cases hq : P.info? e' with
    | none => simp [hq] at h
    | some i =>
      simp [hq] at h
      obtain ⟨rfl, rfl⟩ := h
      exact ⟨e', hu, by simp [hq]⟩
  · cases h

section
variable [Dfs] {P : Program} {n : Nat} {env : Env} {S : World → Prop} {o : Oper}

/-- s[i] of a string. -/
theorem y_ixs {t : Nat} {x ix : Operand} {p : List UInt8} {k : IntKind} {q : Int} {b : UInt8} (ho : o.op = .index t x ix) (hx : env.ev x = some (sv p)) (hi : env.ev ix = some (.int k q)) (ht : P.underlying t = some .string) (h0 : 0 ≤ q) (hb : p[q.toNat]? = some b) : Yld P n env S o (.int .u8 b.toNat) := fun a r w _ => by
  have hg : (⟨p.toArray⟩ : ByteArray)[q.toNat]? = some b := by
    have hl : q.toNat < p.length := (List.getElem?_eq_some_iff.1 hb).1
    have hl' : q.toNat < (⟨p.toArray⟩ : ByteArray).size := by simpa [ByteArray.size] using hl
    rw [getElem?_pos (⟨p.toArray⟩ : ByteArray) q.toNat hl']
    have := (List.getElem?_eq_some_iff.1 hb).2
    simp [← this]
    rfl
  unfold execOp
  simp [ho, r.eval hx, r.eval hi, Instr.index, asIntOf, run_underlying ht, h0, hg]
/-- &xs[i] of a slice. -/
theorem y_ixa {t e m g b l c : Nat} {x ix : Operand} {k : IntKind} {q : Int} (ho : o.op = .indexAddr t x ix) (hx : env.ev x = some (.slice (some ⟨g, b, none⟩) l c)) (hi : env.ev ix = some (.int k q)) (ht : elemSize P t = some (e, m)) (h0 : 0 ≤ q) (h1 : q < l) :
    Yld P n env S o (.pointer (some ⟨g, b + q.toNat * m, none⟩)) := fun a r w _ => by
  obtain ⟨hu, hs⟩ := elemSize_spec ht
  unfold execOp
  simp [ho, r.eval hx, r.eval hi, Instr.indexAt, asIntOf, run_underlying hu, h0, h1, run_sizeOf hs, Addr.add_mid]
theorem y_ixaN {t e m g b l c j : Nat} {x ix : Operand} {k : IntKind} (ho : o.op = .indexAddr t x ix) (hx : env.ev x = some (.slice (some ⟨g, b, none⟩) l c)) (hi : env.ev ix = some (.int k (j : Int))) (ht : elemSize P t = some (e, m)) (h1 : j < l) :
    Yld P n env S o (.pointer (some ⟨g, b + j * m, none⟩)) := by
  have := y_ixa (P := P) (n := n) (S := S) ho hx hi ht (by omega) (by omega)
  simpa using this
/-- &arr[i] of an array behind a pointer. -/
theorem y_ixr {t m g b l : Nat} {x ix : Operand} {k : IntKind} {q : Int} (ho : o.op = .indexAddr t x ix) (hx : env.ev x = some (.pointer (some ⟨g, b, none⟩))) (hi : env.ev ix = some (.int k q)) (ht : arrSize P t = some (l, m)) (h0 : 0 ≤ q) (h1 : q < l) :
    Yld P n env S o (.pointer (some ⟨g, b + q.toNat * m, none⟩)) := fun a r w _ => by
  obtain ⟨e, hu, hs⟩ := arrSize_spec ht
  unfold execOp
  simp [ho, r.eval hx, r.eval hi, Instr.indexAt, asIntOf, run_underlying hu, h0, h1, run_sizeOf hs, Addr.add_mid, Instr.sureAddr]
theorem y_ixrN {t m g b l j : Nat} {x ix : Operand} {k : IntKind} (ho : o.op = .indexAddr t x ix) (hx : env.ev x = some (.pointer (some ⟨g, b, none⟩))) (hi : env.ev ix = some (.int k (j : Int))) (ht : arrSize P t = some (l, m)) (h1 : j < l) :
    Yld P n env S o (.pointer (some ⟨g, b + j * m, none⟩)) := by
  have := y_ixr (P := P) (n := n) (S := S) ho hx hi ht (by omega) (by omega)
  simpa using this

/-- The bounds of a cut. -/
def cutLo (env : Env) : Option Operand → Option Int
  | none => some 0
  | some x => match env.ev x with
    | some (.int _ q) => some q
    | _ => none
def cutHi (env : Env) (l : Nat) : Option Operand → Option Int
  | none => some l
  | some x => match env.ev x with
    | some (.int _ q) => some q
    | _ => none
theorem run_sliceBounds {isS : Bool} {l c : Nat} {lo hi : Option Operand} {p q : Int} {a : Act} (r : Rep n env a) (hlo : cutLo env lo = some p) (hhi : cutHi env l hi = some q) (h0 : 0 ≤ p) (h1 : p ≤ q) (h2 : q ≤ c) (hlc : hi = none → l ≤ c) (w : World) :
    (Instr.sliceBounds isS l c (lo.map a.eval) (hi.map a.eval) none).run P w = .ok (p.toNat, q.toNat, c) w := by
  have hq0 : 0 ≤ q := by omega
  cases hi with
  | none =>
    simp only [cutHi, Option.some.injEq] at hhi
    subst hhi
    cases lo with
    | none =>
      simp only [cutLo, Option.some.injEq] at hlo
      subst hlo
      simp [Instr.sliceBounds]
    | some x =>
      unfold cutLo at hlo
      split at hlo
      · rename_i heq; cases heq
      · rename_i y heq
        injection heq with heq
        subst heq
        split at hlo
        · rename_i kk qq he
          injection hlo with hlo
          subst hlo
          simp [Instr.sliceBounds, Instr.sliceBound, r.eval he, asIntOf, h0, h1]
        · cases hlo
  | some z =>
    unfold cutHi at hhi
    split at hhi
    · rename_i heq; cases heq
    · rename_i y heq
      injection heq with heq
      subst heq
      split at hhi
      · rename_i kk qq he
        injection hhi with hhi
        subst hhi
        have h1n : p ≤ (qq.toNat : Int) := by omega
        cases lo with
        | none =>
          simp only [cutLo, Option.some.injEq] at hlo
          subst hlo
          simp [Instr.sliceBounds, Instr.sliceBound, r.eval he, asIntOf, hq0, h2]
        | some x =>
          unfold cutLo at hlo
          split at hlo
          · rename_i heq'; cases heq'
          · rename_i y' heq'
            injection heq' with heq'
            subst heq'
            split at hlo
            · rename_i k2 q2 he2
              injection hlo with hlo
              subst hlo
              simp [Instr.sliceBounds, Instr.sliceBound, r.eval he, r.eval he2, asIntOf, hq0, h2, h0]
              omega
            · cases hlo
      · cases hhi

/-- s[p:q] of a string. -/
theorem y_cuts {t : Nat} {x : Operand} {lo hi : Option Operand} {s : List UInt8} {p q : Int} (ho : o.op = .slice t x lo hi none) (hx : env.ev x = some (sv s)) (ht : P.underlying t = some .string) (hlo : cutLo env lo = some p) (hhi : cutHi env s.length hi = some q)
    (h0 : 0 ≤ p) (h1 : p ≤ q) (h2 : q ≤ s.length) : Yld P n env S o (sv ((s.take q.toNat).drop p.toNat)) := fun a r w _ => by
  have hb := run_sliceBounds (P := P) (isS := false) r hlo hhi h0 h1 h2 (fun _ => Nat.le_refl _) w
  have hsz : (⟨s.toArray⟩ : ByteArray).size = s.length := by simp [ByteArray.size]
  have e : (⟨s.toArray⟩ : ByteArray).extract p.toNat q.toNat = ⟨((s.take q.toNat).drop p.toNat).toArray⟩ := by
    apply ByteArray.ext
    rw [ByteArray.data_extract]
    simp [List.extract_toArray, List.drop_take]
  unfold execOp
  simp [ho, r.eval hx, Instr.sliceAt, run_underlying ht, Instr.slice, hsz, hb, e]
/-- arr[p:q] of an array behind a pointer. -/
theorem y_cuta {t m g b l : Nat} {x : Operand} {lo hi : Option Operand} {p q : Int} (ho : o.op = .slice t x lo hi none) (hx : env.ev x = some (.pointer (some ⟨g, b, none⟩))) (ht : arrSize P t = some (l, m)) (hlo : cutLo env lo = some p) (hhi : cutHi env l hi = some q)
    (h0 : 0 ≤ p) (h1 : p ≤ q) (h2 : q ≤ l) (h3 : p < l) : Yld P n env S o (.slice (some ⟨g, b + p.toNat * m, none⟩) (q.toNat - p.toNat) (l - p.toNat)) := fun a r w _ => by
  obtain ⟨e, hu, hs⟩ := arrSize_spec ht
  have hb := run_sliceBounds (P := P) (isS := false) r hlo hhi h0 h1 h2 (fun _ => Nat.le_refl _) w
  have hne : ¬ l = p.toNat := by omega
  unfold execOp
  simp [ho, r.eval hx, Instr.sliceAt, run_underlying hu, hb, run_sizeOf hs, Instr.sureAddr, hne, Addr.add_mid]
/-- xs[p:q] of a slice. -/
theorem y_cutl {t e m l c : Nat} {A : Option Addr} {x : Operand} {lo hi : Option Operand} {p q : Int} (ho : o.op = .slice t x lo hi none) (hx : env.ev x = some (.slice A l c)) (ht : elemSize P t = some (e, m)) (hlo : cutLo env lo = some p) (hhi : cutHi env l hi = some q)
    (h0 : 0 ≤ p) (h1 : p ≤ q) (h2 : q ≤ c) (hlc : l ≤ c) : Yld P n env S o (.slice (if c = p.toNat then A else A.map (·.add (p.toNat * m))) (q.toNat - p.toNat) (c - p.toNat)) := fun a r w _ => by
  obtain ⟨hu, hs⟩ := elemSize_spec ht
  have hb := run_sliceBounds (P := P) (isS := true) r hlo hhi h0 h1 h2 (fun _ => hlc) w
  unfold execOp
  simp [ho, r.eval hx, Instr.sliceAt, Instr.slice, run_underlying hu, hb, run_sizeOf hs]
/-- xs[:q] of a slice. -/
theorem y_cutl0 {t e m l c : Nat} {A : Option Addr} {x : Operand} {hi : Option Operand} {q : Int} (ho : o.op = .slice t x none hi none) (hx : env.ev x = some (.slice A l c)) (ht : elemSize P t = some (e, m)) (hhi : cutHi env l hi = some q)
    (h1 : 0 ≤ q) (h2 : q ≤ c) (hlc : l ≤ c) : Yld P n env S o (.slice A q.toNat c) := by
  have := y_cutl (P := P) (n := n) (S := S) ho hx ht (p := 0) rfl hhi (by omega) h1 h2 hlc
  have e1 : (if c = (0 : Int).toNat then A else A.map (·.add ((0 : Int).toNat * m))) = A := by
    split
    · rfl
    · cases A <;> simp [Addr.add]
  rw [e1] at this
  simpa using this
end

section
variable [Dfs] {P : Program} {n : Nat} {env : Env} {S : World → Prop} {o : Oper}
theorem y_cutsN {t i j : Nat} {x : Operand} {lo hi : Option Operand} {s : List UInt8} (ho : o.op = .slice t x lo hi none) (hx : env.ev x = some (sv s)) (ht : P.underlying t = some .string) (hlo : cutLo env lo = some (i : Int)) (hhi : cutHi env s.length hi = some (j : Int))
    (h1 : i ≤ j) (h2 : j ≤ s.length) : Yld P n env S o (sv ((s.take j).drop i)) := by
  have := y_cuts (P := P) (n := n) (S := S) ho hx ht hlo hhi (by omega) (by omega) (by omega)
  simpa using this
theorem y_cutaN {t m g b l i j : Nat} {x : Operand} {lo hi : Option Operand} (ho : o.op = .slice t x lo hi none) (hx : env.ev x = some (.pointer (some ⟨g, b, none⟩))) (ht : arrSize P t = some (l, m)) (hlo : cutLo env lo = some (i : Int)) (hhi : cutHi env l hi = some (j : Int))
    (h1 : i ≤ j) (h2 : j ≤ l) (h3 : i < l) : Yld P n env S o (.slice (some ⟨g, b + i * m, none⟩) (j - i) (l - i)) := by
  have := y_cuta (P := P) (n := n) (S := S) ho hx ht hlo hhi (by omega) (by omega) (by omega) (by omega)
  simpa using this
/-- xs[i:j] of a slice that is not nil, i below the capacity. -/
theorem y_cutlN {t e m l c g b i j : Nat} {x : Operand} {lo hi : Option Operand} (ho : o.op = .slice t x lo hi none) (hx : env.ev x = some (.slice (some ⟨g, b, none⟩) l c)) (ht : elemSize P t = some (e, m)) (hlo : cutLo env lo = some (i : Int)) (hhi : cutHi env l hi = some (j : Int))
    (h1 : i ≤ j) (h2 : j ≤ c) (hlc : l ≤ c) (hic : i < c) : Yld P n env S o (.slice (some ⟨g, b + i * m, none⟩) (j - i) (c - i)) := by
  have := y_cutl (P := P) (n := n) (S := S) ho hx ht hlo hhi (by omega) (by omega) (by omega) hlc
  rw [if_neg (by omega)] at this
  simpa [Addr.add_mid] using this
end

/-! ### struct and array values -/
def fillL (pls : List (Nat × Nat)) : List Value → List (Nat × Value) → Option (List Value)
  | cs, [] => some cs
  | cs, (i, v) :: r => match pls[i]? with
    | some (off, sz) => bif Nat.beq v.cells.toList.length sz && Nat.ble (off + sz) cs.length then fillL pls (cs.take off ++ (v.cells.toList ++ cs.drop (off + sz))) r else none
    | none => none
def placesOf (P : Program) (t : Nat) : Option (List (Nat × Nat)) := match P.underlying t with
  | some (.struct fields) => fields.toList.mapM fun f => (P.info? f.type).map fun i => (f.offset, i.size)
  | _ => none

theorem foldl_set_zipIdx : ∀ (u : List Value) (off j : Nat) (cs : Array Value), off + j + u.length ≤ cs.size →
    (u.zipIdx j).foldl (fun cs (cj : Value × Nat) => cs.setIfInBounds (off + cj.2) cj.1) cs = (cs.toList.take (off + j) ++ (u ++ cs.toList.drop (off + j + u.length))).toArray
  | [], off, j, cs, _ => by simp
  | v :: u, off, j, cs, h => by
    simp only [List.length_cons] at h
    rw [List.zipIdx_cons, List.foldl_cons, foldl_set_zipIdx u off (j + 1) _ (by simp; omega)]
    have e := list_seg_step cs.toList (off + j) v u (by simp; omega)
    simp only [Array.toList_setIfInBounds, List.length_cons, ← Nat.add_assoc]
    simpa [Nat.add_assoc] using e

theorem fill_of_fillL (pls : List (Nat × Nat)) : ∀ (parts : List (Nat × Value)) (cs out : List Value), fillL pls cs parts = some out → Instr.fill (pls.toArray[·]?) cs.toArray parts = some out.toArray
  | [], cs, out, h => by simp [fillL] at h; simp [Instr.fill, h]
  | (i, v) :: r, cs, out, h => by
    unfold fillL at h
    split at h
    · rename_i off sz hp
      cases hb : (Nat.beq v.cells.toList.length sz && Nat.ble (off + sz) cs.length) with
      | false => rw [hb] at h; cases h
      | true =>
        rw [hb] at h
        simp only [cond_true] at h
        simp only [Bool.and_eq_true, Nat.ble_eq] at hb
        have h1 : v.cells.toList.length = sz := Nat.eq_of_beq_eq_true hb.1
        have hsz : v.cells.size = sz := by rw [← h1]; simp
        have key := foldl_set_zipIdx v.cells.toList off 0 cs.toArray (by simp; omega)
        simp only [Nat.add_zero] at key
        unfold Instr.fill
        have hp' : pls.toArray[i]? = some (off, sz) := by simpa using hp
        simp only [hp']
        rw [if_neg (by simp [hsz]; omega)]
        have key2 : (v.cells.zipIdx.foldl (fun cs (cj : Value × Nat) => cs.setIfInBounds (off + cj.2) cj.1) cs.toArray) = (cs.take off ++ (v.cells.toList ++ cs.drop (off + sz))).toArray := by
          rw [← Array.foldl_toList, Array.toList_zipIdx, key]
          simp [hsz]
        have key3 : v.cells.zipIdx.foldl (fun cs x => match x with | (c, j) => cs.setIfInBounds (off + j) c) cs.toArray = (cs.take off ++ (v.cells.toList ++ cs.drop (off + sz))).toArray := key2
        rw [key3]
        exact fill_of_fillL pls r _ out h
    · cases h

section
variable [Dfs] {P : Program} {n : Nat} {env : Env} {S : World → Prop} {o : Oper}
theorem y_build {t : Nat} {ps : List (Nat × Operand)} {vs zs cells : List Value} {pls : List (Nat × Nat)} (ho : o.op = .build t ps.toArray) (hx : env.evs (ps.map (·.2)) = some vs) (hz : zeroCells P t = some zs) (hp : placesOf P t = some pls)
    (hf : fillL pls zs ((ps.map (·.1)).zip vs) = some cells) : Yld P n env S o (.agg cells.toArray) := fun a r w _ => by
  have e : (ps.toArray.map fun (i, x) => (i, a.eval x)).toList = (ps.map (·.1)).zip vs := by
    rw [← r.evals hx]
    simp only [List.map_toArray, List.map_map]
    clear ho hx hf
    induction ps with
    | nil => rfl
    | cons p ps ih => obtain ⟨i, x⟩ := p; simpa using ih
  unfold placesOf at hp
  split at hp
  · rename_i fields hu
    unfold zeroCells at hz
    cases hq : P.info? t with
    | none => simp [hq] at hz
    | some it =>
      cases hzz : it.zero with
      | none => simp [hq, hzz] at hz
      | some z =>
        have hz' : z.cells = zs.toArray := by simp [hq, hzz] at hz; rw [← hz]
        have hb : P.built t ((ps.map (·.1)).zip vs) = some cells.toArray := by
          unfold Program.built
          simp only [hq, hu, hzz, hp, hz']
          exact fill_of_fillL pls _ zs cells hf
        have := run_build (P := P) w t (ps.toArray.map fun (i, x) => (i, a.eval x)) cells.toArray (by rw [e]; exact hb)
        unfold execOp
        simp only [ho]
        simp only [Sem.run_bind, this, Result.andThen_ok]
        rfl
  · cases hp
/-- x.f of a struct value: one cell. -/
theorem y_field {t f ft off : Nat} {x : Operand} {us : List Value} {v : Value} (ho : o.op = .field t x f) (hx : env.ev x = some (.agg us.toArray)) (hf : fieldOff P t f = some off) (hft : (match P.underlying t with | some (.struct fs) => (fs[f]?).map (·.type) | _ => none) = some ft) (hp : plainB P ft = true) (hv : us[off]? = some v) : Yld P n env S o v := fun a r w _ => by
  unfold fieldOff at hf
  split at hf <;> try (cases hf; done)
  rename_i fs hu
  simp only [hu] at hft
  split at hf <;> try (cases hf; done)
  rename_i fd hfd
  simp only [hfd, Option.map_some, Option.some.injEq] at hft
  split at hf <;> try (cases hf; done)
  rename_i i hi
  split at hf
  · cases hf
  · injection hf with hf
    subst hf
    subst hft
    have hA : (isAgg fd.type).run P w = .ok false w := by
      unfold plainB at hp
      cases hu' : P.underlying fd.type with
      | none => simp [hu'] at hp
      | some d =>
        unfold isAgg
        simp only [Sem.run_bind, run_underlying hu', Result.andThen_ok]
        cases d <;> simp [hu'] at hp <;> rfl
    unfold execOp
    simp [ho, r.eval hx, Instr.field, run_underlying hu, hfd, asAgg, part, hA, hv]
end
end Go.Proofs.YtngofknckkiboaaGreatDoor

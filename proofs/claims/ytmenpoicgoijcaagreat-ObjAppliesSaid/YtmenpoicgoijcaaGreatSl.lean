/- Rules for slices, strings, arrays and struct values. -/
import Derived.Test.YtmenpoicgoijcaaGreatSz
import Derived.Maps.AppendAt
import Derived.Laws.MakeOwn
import Derived.Laws.BytesArg
namespace Go.Proofs.YtmenpoicgoijcaaGreat
open Go.RowKit
def elemSize (P : Program) (t : Nat) : Option (Nat × Nat) := match P.underlying t with
  | some (.slice e) => (P.info? e).map fun i => (e, i.size)
  | _ => none
def arrSize (P : Program) (t : Nat) : Option (Nat × Nat) := match P.underlying t with
  | some (.array m e) => (P.info? e).map fun i => (m, i.size)
  | _ => none
theorem elemSize_spec {P : Program} {t e m : Nat} (h : elemSize P t = some (e, m)) : P.underlying t = some (.slice e) ∧ (P.info? e).map (·.size) = some m := by
  unfold elemSize at h
  split at h
  · rename_i e' hu
    cases hq : P.info? e' with
    | none => simp [hq] at h
    | some i =>
      simp [hq] at h
      obtain ⟨rfl, rfl⟩ := h
      exact ⟨hu, by simp [hq]⟩
  · cases h
theorem run_sizeOf {P : Program} {e m : Nat} (h : (P.info? e).map (·.size) = some m) (w : World) : (sizeOf e).run P w = .ok m w := by
  cases hq : P.info? e with
  | none => simp [hq] at h
  | some i => simp [hq] at h; simp [sizeOf, typeInfo, hq, h]
theorem arrSize_spec {P : Program} {t k m : Nat} (h : arrSize P t = some (k, m)) : ∃ e, P.underlying t = some (.array k e) ∧ (P.info? e).map (·.size) = some m := by
  unfold arrSize at h
  split at h
  · rename_i k' e' hu
    cases hq : P.info? e' with
    | none => simp [hq] at h
    | some i =>
      simp [hq] at h
      obtain ⟨rfl, rfl⟩ := h
      exact ⟨e', hu, by simp [hq]⟩
  · cases h
section
variable {P : Program} {n : Nat} {env : Env} {S : World → Prop} {o : Oper}
theorem y_ixa {t e m g b l c : Nat} {x ix : Operand} {k : IntKind} {q : Int} (ho : o.op = .indexAddr t x ix) (hx : env.ev x = some (.slice (some ⟨g, b, none⟩) l c)) (hi : env.ev ix = some (.int k q)) (ht : elemSize P t = some (e, m)) (h0 : 0 ≤ q) (h1 : q < l) :
    Yld P n env S o (.pointer (some ⟨g, b + q.toNat * m, none⟩)) := fun a r w _ => by
  obtain ⟨hu, hs⟩ := elemSize_spec ht
  unfold execOp
  simp [ho, r.eval hx, r.eval hi, Instr.indexAt, asIntOf, run_underlying hu, h0, h1, run_sizeOf hs, Addr.add_mid]
theorem y_ixr {t m g b l : Nat} {x ix : Operand} {k : IntKind} {q : Int} (ho : o.op = .indexAddr t x ix) (hx : env.ev x = some (.pointer (some ⟨g, b, none⟩))) (hi : env.ev ix = some (.int k q)) (ht : arrSize P t = some (l, m)) (h0 : 0 ≤ q) (h1 : q < l) :
    Yld P n env S o (.pointer (some ⟨g, b + q.toNat * m, none⟩)) := fun a r w _ => by
  obtain ⟨e, hu, hs⟩ := arrSize_spec ht
  unfold execOp
  simp [ho, r.eval hx, r.eval hi, Instr.indexAt, asIntOf, run_underlying hu, h0, h1, run_sizeOf hs, Addr.add_mid, Instr.sureAddr]
def cutLo (env : Env) : Option Operand → Option Int
  | none => some 0
  | some x => match env.ev x with
    | some (.int _ q) => some q
    | _ => none
def cutHi (env : Env) (l : Nat) : Option Operand → Option Int
  | none => some l
  | some x => match env.ev x with
    | some (.int _ q) => some q
    | _ => none
theorem run_sliceBounds {isS : Bool} {l c : Nat} {lo hi : Option Operand} {p q : Int} {a : Act} (r : Rep n env a) (hlo : cutLo env lo = some p) (hhi : cutHi env l hi = some q) (h0 : 0 ≤ p) (h1 : p ≤ q) (h2 : q ≤ c) (hlc : hi = none → l ≤ c) (w : World) :
    (Instr.sliceBounds isS l c (lo.map a.eval) (hi.map a.eval) none).run P w = .ok (p.toNat, q.toNat, c) w := by
  have hq0 : 0 ≤ q := by omega
  cases hi with
  | none =>
    simp only [cutHi, Option.some.injEq] at hhi
    subst hhi
    cases lo with
    | none =>
      simp only [cutLo, Option.some.injEq] at hlo
      subst hlo
      simp [Instr.sliceBounds]
    | some x =>
      unfold cutLo at hlo
      split at hlo
      · rename_i heq; cases heq
      · rename_i y heq
        injection heq with heq
        subst heq
        split at hlo
        · rename_i kk qq he
          injection hlo with hlo
          subst hlo
          simp [Instr.sliceBounds, Instr.sliceBound, r.eval he, asIntOf, h0, h1]
        · cases hlo
  | some z =>
    unfold cutHi at hhi
    split at hhi
    · rename_i heq; cases heq
    · rename_i y heq
      injection heq with heq
      subst heq
      split at hhi
      · rename_i kk qq he
        injection hhi with hhi
        subst hhi
        have h1n : p ≤ (qq.toNat : Int) := by omega
        cases lo with
        | none =>
          simp only [cutLo, Option.some.injEq] at hlo
          subst hlo
          simp [Instr.sliceBounds, Instr.sliceBound, r.eval he, asIntOf, hq0, h2]
        | some x =>
          unfold cutLo at hlo
          split at hlo
          · rename_i heq'; cases heq'
          · rename_i y' heq'
            injection heq' with heq'
            subst heq'
            split at hlo
            · rename_i k2 q2 he2
              injection hlo with hlo
              subst hlo
              simp [Instr.sliceBounds, Instr.sliceBound, r.eval he, r.eval he2, asIntOf, hq0, h2, h0]
              omega
            · cases hlo
      · cases hhi
theorem y_cutl {t e m l c : Nat} {A : Option Addr} {x : Operand} {lo hi : Option Operand} {p q : Int} (ho : o.op = .slice t x lo hi none) (hx : env.ev x = some (.slice A l c)) (ht : elemSize P t = some (e, m)) (hlo : cutLo env lo = some p) (hhi : cutHi env l hi = some q)
    (h0 : 0 ≤ p) (h1 : p ≤ q) (h2 : q ≤ c) (hlc : l ≤ c) : Yld P n env S o (.slice (if c = p.toNat then A else A.map (·.add (p.toNat * m))) (q.toNat - p.toNat) (c - p.toNat)) := fun a r w _ => by
  obtain ⟨hu, hs⟩ := elemSize_spec ht
  have hb := run_sliceBounds (P := P) (isS := true) r hlo hhi h0 h1 h2 (fun _ => hlc) w
  unfold execOp
  simp [ho, r.eval hx, Instr.sliceAt, Instr.slice, run_underlying hu, hb, run_sizeOf hs]
end
section
variable {P : Program} {n : Nat} {env : Env} {S : World → Prop} {o : Oper}
end
def fillL (pls : List (Nat × Nat)) : List Value → List (Nat × Value) → Option (List Value)
  | cs, [] => some cs
  | cs, (i, v) :: r => match pls[i]? with
    | some (off, sz) => bif Nat.beq v.cells.toList.length sz && Nat.ble (off + sz) cs.length then fillL pls (cs.take off ++ (v.cells.toList ++ cs.drop (off + sz))) r else none
    | none => none
def placesOf (P : Program) (t : Nat) : Option (List (Nat × Nat)) := match P.underlying t with
  | some (.struct fields) => fields.toList.mapM fun f => (P.info? f.type).map fun i => (f.offset, i.size)
  | _ => none
theorem foldl_set_zipIdx : ∀ (u : List Value) (off j : Nat) (cs : Array Value), off + j + u.length ≤ cs.size →
    (u.zipIdx j).foldl (fun cs (cj : Value × Nat) => cs.setIfInBounds (off + cj.2) cj.1) cs = (cs.toList.take (off + j) ++ (u ++ cs.toList.drop (off + j + u.length))).toArray
  | [], off, j, cs, _ => by simp
  | v :: u, off, j, cs, h => by
    simp only [List.length_cons] at h
    rw [List.zipIdx_cons, List.foldl_cons, foldl_set_zipIdx u off (j + 1) _ (by simp; omega)]
    have e := list_seg_step cs.toList (off + j) v u (by simp; omega)
    simp only [Array.toList_setIfInBounds, List.length_cons, ← Nat.add_assoc]
    simpa [Nat.add_assoc] using e
theorem fill_of_fillL (pls : List (Nat × Nat)) : ∀ (parts : List (Nat × Value)) (cs out : List Value), fillL pls cs parts = some out → Instr.fill (pls.toArray[·]?) cs.toArray parts = some out.toArray
  | [], cs, out, h => by simp [fillL] at h; simp [Instr.fill, h]
  | (i, v) :: r, cs, out, h => by
    unfold fillL at h
    split at h
    · rename_i off sz hp
      cases hb : (Nat.beq v.cells.toList.length sz && Nat.ble (off + sz) cs.length) with
      | false => rw [hb] at h; cases h
      | true =>
        rw [hb] at h
        simp only [cond_true] at h
        simp only [Bool.and_eq_true, Nat.ble_eq] at hb
        have h1 : v.cells.toList.length = sz := Nat.eq_of_beq_eq_true hb.1
        have hsz : v.cells.size = sz := by rw [← h1]; simp
        have key := foldl_set_zipIdx v.cells.toList off 0 cs.toArray (by simp; omega)
        simp only [Nat.add_zero] at key
        unfold Instr.fill
        have hp' : pls.toArray[i]? = some (off, sz) := by simpa using hp
        simp only [hp']
        rw [if_neg (by simp [hsz]; omega)]
        have key2 : (v.cells.zipIdx.foldl (fun cs (cj : Value × Nat) => cs.setIfInBounds (off + cj.2) cj.1) cs.toArray) = (cs.take off ++ (v.cells.toList ++ cs.drop (off + sz))).toArray := by
          rw [← Array.foldl_toList, Array.toList_zipIdx, key]
          simp [hsz]
        have key3 : v.cells.zipIdx.foldl (fun cs x => match x with | (c, j) => cs.setIfInBounds (off + j) c) cs.toArray = (cs.take off ++ (v.cells.toList ++ cs.drop (off + sz))).toArray := key2
        rw [key3]
        exact fill_of_fillL pls r _ out h
    · cases h
section
variable {P : Program} {n : Nat} {env : Env} {S : World → Prop} {o : Oper}
theorem y_build {t : Nat} {ps : List (Nat × Operand)} {vs zs cells : List Value} {pls : List (Nat × Nat)} (ho : o.op = .build t ps.toArray) (hx : env.evs (ps.map (·.2)) = some vs) (hz : zeroCells P t = some zs) (hp : placesOf P t = some pls)
    (hf : fillL pls zs ((ps.map (·.1)).zip vs) = some cells) : Yld P n env S o (.agg cells.toArray) := fun a r w _ => by
  have e : (ps.toArray.map fun (i, x) => (i, a.eval x)).toList = (ps.map (·.1)).zip vs := by
    rw [← r.evals hx]
    simp only [List.map_toArray, List.map_map]
    clear ho hx hf
    induction ps with
    | nil => rfl
    | cons p ps ih => obtain ⟨i, x⟩ := p; simpa using ih
  unfold placesOf at hp
  split at hp
  · rename_i fields hu
    unfold zeroCells at hz
    cases hq : P.info? t with
    | none => simp [hq] at hz
    | some it =>
      cases hzz : it.zero with
      | none => simp [hq, hzz] at hz
      | some z =>
        have hz' : z.cells = zs.toArray := by simp [hq, hzz] at hz; rw [← hz]
        have hb : P.built t ((ps.map (·.1)).zip vs) = some cells.toArray := by
          unfold Program.built
          simp only [hq, hu, hzz, hp, hz']
          exact fill_of_fillL pls _ zs cells hf
        have := run_build (P := P) w t (ps.toArray.map fun (i, x) => (i, a.eval x)) cells.toArray (by rw [e]; exact hb)
        unfold execOp
        simp only [ho]
        simp only [Sem.run_bind, this, Result.andThen_ok]
        rfl
  · cases hp
end
end Go.Proofs.YtmenpoicgoijcaaGreat

/- Own rows that are cut, cleared and lent. -/
import Derived.Test.YtngofknckkiboaaGreatDoorSv
set_option linter.unusedVariables false
set_option linter.unusedSimpArgs false
namespace Go.Proofs.YtngofknckkiboaaGreatDoor
open Go.RowKit

/-- Others changed their own blocks. -/
theorem St.other {X Y : List Nat} {w w' : World} {H : Heap} {K : List Kf} (h : St X w H K) (hf : Fr Y w w') (hY : ∀ y ∈ Y, y ∈ X) : St X w' H K :=
  ⟨h.hp.keep hf (fun k hk hy => h.dj k (hY k hy) hk), fun k hk => k.st (h.kr k hk) (hf.mono fun y hy => List.mem_append_right _ (hY y hy)) (fun _ hy => .inl hy), fun x hx => Nat.lt_of_lt_of_le (h.lo x hx) hf.size, h.dj⟩
theorem Ow.cut {α : Type} {enc : α → List Value} {A : Option Addr} {c m l : Nat} {xs : List α} {sp : List Value} (hm : ∀ x, (enc x).length = m) (h : Ow A l c m (xs.flatMap enc) sp) (hl : l = xs.length) (k : Nat) :
    Ow A (xs.take k).length c m ((xs.take k).flatMap enc) ((xs.drop k).flatMap enc ++ sp) := by
  subst hl
  refine ⟨fl_len hm _, ?_⟩
  rcases h.2 with ⟨h1, h2, h3, h4⟩ | ⟨g, h1, h2, h3, h4⟩
  · have : xs = [] := List.eq_nil_of_length_eq_zero h2
    subst this
    exact .inl ⟨h1, by simp, h3, by simp [h4]⟩
  · refine .inr ⟨g, h1, ?_, ?_, h4⟩
    · rw [← List.append_assoc, ← List.flatMap_append, List.take_append_drop]; exact h2
    · rw [List.length_take]; omega
theorem cut_cells {α : Type} {enc : α → List Value} {xs : List α} {sp : List Value} (k : Nat) : xs.flatMap enc ++ sp = (xs.take k).flatMap enc ++ ((xs.drop k).flatMap enc ++ sp) := by
  rw [← List.append_assoc, ← List.flatMap_append, List.take_append_drop]
theorem keys_in {k : Option Nat} {o : Obj} {i j : Nat} (H : Heap) (idx : List Nat) (hj : (pickL H idx)[j]? = some (k, o)) (hi : pickL H [i] = [(k, o)]) {y : Nat} (hy : y ∈ keys (pickL H [i])) : y ∈ keys (pickL H idx) := by
  rw [hi] at hy
  cases k with
  | none => simp [keys] at hy
  | some g => simp [keys] at hy; subst hy; exact mem_keys.2 ⟨j, o, hj⟩
theorem bl_eq : ∀ (x y : List UInt8), Op.bytesLess x y = decide (x < y)
  | _, [] => by simp [Op.bytesLess]
  | [], _ :: _ => by simp [Op.bytesLess]
  | a :: x, b :: y => by
    rw [Op.bytesLess, bl_eq x y]
    simp only [List.cons_lt_cons_iff, Bool.decide_or, Bool.decide_and]
    rfl
theorem bl_le (x y : List UInt8) : (Op.bytesLess x y || x == y) = decide (x ≤ y) := by
  rw [bl_eq]; by_cases h : x < y
  · simp [h, List.le_of_lt h]
  · by_cases e : x = y
    · subst e; simp
    · have : ¬ x ≤ y := fun hle => by rcases List.le_iff_lt_or_eq.mp hle with h' | h' <;> contradiction
      simp [h, e, this]
section
variable [Dfs] {P : Program} {n : Nat} {env : Env} {S : World → Prop} {o : Oper} {w : World} {H : Heap} {K : Env → World → Prop} {α : Type} {enc : α → List Value}
theorem y_cut0M {t e m c l : Nat} {A : Option Addr} {xs : List α} {x : Operand} {lo hi : Option Operand} {q : Int} {sp : List Value} (ho : o.op = .slice t x lo hi none) (hx : env.ev x = some (.slice A l c)) (hl : l = xs.length) (ht : elemSize P t = some (e, m)) (hlo : cutLo env lo = some 0) (hhi : cutHi env l hi = some q)
    (h1 : 0 ≤ q) (h2 : q ≤ xs.length) (how : Ow A l c m (xs.flatMap enc) sp) : Yld P n env S o (.slice A (xs.take q.toNat).length c) := by
  subst hl
  have hlc : xs.length ≤ c := by rcases how.2 with ⟨_, h, h', _⟩ | ⟨g, _, _, h, _⟩ <;> omega
  have := y_cutl (P := P) (n := n) (S := S) ho hx ht hlo hhi (by omega) h1 (by omega) hlc
  have e1 : (if c = (0 : Int).toNat then A else A.map (·.add ((0 : Int).toNat * m))) = A := by
    split
    · rfl
    · cases A with
      | none => rfl
      | some a => simp [Addr.add]
  rw [e1] at this
  have e2 : (xs.take q.toNat).length = q.toNat - (0 : Int).toNat := by rw [List.length_take]; omega
  rw [e2]
  exact this
theorem y_cuttM {t e m c g l : Nat} {xs : List α} {x : Operand} {lo hi : Option Operand} {p : Int} {sp : List Value} (ho : o.op = .slice t x lo hi none) (hx : env.ev x = some (.slice (some ⟨g, 0, none⟩) l c)) (hl : l = xs.length) (ht : elemSize P t = some (e, m)) (hlo : cutLo env lo = some p) (hhi : cutHi env l hi = some (l : Int))
    (h0 : 0 ≤ p) (h1 : p < xs.length) (how : Ow (some ⟨g, 0, none⟩) l c m (xs.flatMap enc) sp) : Yld P n env S o (.slice (some ⟨g, 0 + p.toNat * m, none⟩) (l - p.toNat) (c - p.toNat)) := by
  subst hl
  have hlc : xs.length ≤ c := by rcases how.2 with ⟨_, h, h', _⟩ | ⟨g, _, _, h, _⟩ <;> omega
  have := y_cutlS (P := P) (n := n) (S := S) ho hx ht hlo hhi h0 (by omega) (by omega) hlc
  rw [cutAd_in (by omega)] at this
  simpa using this
/-- The end of an own row is cleared. -/
theorem a_clearM {t e m c c' i g l : Nat} {x : Operand} {xs : List α} {sp z : List Value} {u : α} {p : Int} (ho : o.op = .call { callee := .builtin .clear, args := #[x], argTypes := #[t] }) (hd : o.dst = none)
    (hx : env.ev x = some (.slice (some ⟨g, 0 + p.toNat * m, none⟩) (l - p.toNat) c')) (hl : l = xs.length) (ht : elemSize P t = some (e, m)) (hz : zeroCells P e = some z) (hzu : z = enc u) (hm : ∀ x, (enc x).length = m) (h1 : ∀ v ∈ enc u, v.oneCell' = true)
    (how : Ow (some ⟨g, 0, none⟩) l c m (xs.flatMap enc) sp) (h0 : 0 ≤ p) (hp : p ≤ xs.length) (h : Hp w H) (hi : H[i]? = some (blkOf (some ⟨g, 0, none⟩), Cl (xs.flatMap enc ++ sp) e))
    (hK : ∀ w', Ow (some ⟨g, 0, none⟩) l c m ((xs.take p.toNat ++ List.replicate (xs.length - p.toNat) u).flatMap enc) sp → Hp w' (H.set i (blkOf (some ⟨g, 0, none⟩), Cl ((xs.take p.toNat ++ List.replicate (xs.length - p.toNat) u).flatMap enc ++ sp) e)) → Fr [g] w w' → K env w') : Act1 P n env w o K := by
  subst hzu
  subst hl
  have hlen := fl_len hm xs
  have hpl : p.toNat ≤ xs.length := by omega
  have hle : p.toNat * m ≤ xs.length * m := Nat.mul_le_mul_right m hpl
  have hs : (xs.length - p.toNat) * m = xs.length * m - p.toNat * m := Nat.sub_mul ..
  refine a_clear ho hd hx ht hz (hm u) h1 h hi (by rw [List.length_append, hlen]; omega) fun w' hp' hf => ?_
  have e1 : (xs.flatMap enc ++ sp).take (0 + p.toNat * m) ++ (List.replicate (xs.length - p.toNat) (enc u)).flatten ++ (xs.flatMap enc ++ sp).drop (0 + p.toNat * m + (xs.length - p.toNat) * m) = (xs.take p.toNat ++ List.replicate (xs.length - p.toNat) u).flatMap enc ++ sp := by
    rw [Nat.zero_add, List.take_append_of_le_length (by omega), fl_take hm, List.drop_append, List.drop_of_length_le (by omega), hlen, show p.toNat * m + (xs.length - p.toNat) * m - xs.length * m = 0 by omega, List.flatMap_append, rep_flat]
    simp
  rw [e1] at hp'
  refine hK w' ⟨?_, ?_⟩ hp' hf
  · rw [fl_len hm, List.length_append, List.length_take, List.length_replicate, show min p.toNat xs.length + (xs.length - p.toNat) = xs.length by omega]
  · rcases how.2 with ⟨h2, _⟩ | ⟨g', e2, h3, h4, h5⟩
    · cases h2
    · refine .inr ⟨g', e2, ?_, h4, h5⟩
      rw [← h3, List.length_append, List.length_append, fl_len hm, hlen, List.length_append, List.length_take, List.length_replicate, show min p.toNat xs.length + (xs.length - p.toNat) = xs.length by omega]
theorem y_lts {x y : Operand} {t u : Nat} {p q : List UInt8} (ho : o.op = .binOp .lss t x y u) (hx : env.ev x = some (sv p)) (hy : env.ev y = some (sv q)) : Yld P n env S o (.bool (decide (p < q))) := fun a r w _ => by
  unfold execOp; simp [ho, r.eval hx, r.eval hy, eqGuard, binOp, Op.stringOp, bl_eq]
theorem y_les {x y : Operand} {t u : Nat} {p q : List UInt8} (ho : o.op = .binOp .leq t x y u) (hx : env.ev x = some (sv p)) (hy : env.ev y = some (sv q)) : Yld P n env S o (.bool (decide (p ≤ q))) := fun a r w _ => by
  unfold execOp; simp [ho, r.eval hx, r.eval hy, eqGuard, binOp, Op.stringOp, bl_le]
theorem y_gts {x y : Operand} {t u : Nat} {p q : List UInt8} (ho : o.op = .binOp .gtr t x y u) (hx : env.ev x = some (sv p)) (hy : env.ev y = some (sv q)) : Yld P n env S o (.bool (decide (q < p))) := fun a r w _ => by
  have e : (!decide (p ≤ q)) = decide (q < p) := by rw [← decide_not]; exact decide_eq_decide.mpr List.not_le
  unfold execOp; simp [ho, r.eval hx, r.eval hy, eqGuard, binOp, Op.stringOp, bl_le, ← e]
theorem y_ges {x y : Operand} {t u : Nat} {p q : List UInt8} (ho : o.op = .binOp .geq t x y u) (hx : env.ev x = some (sv p)) (hy : env.ev y = some (sv q)) : Yld P n env S o (.bool (decide (q ≤ p))) := fun a r w _ => by
  have e : (!decide (p < q)) = decide (q ≤ p) := by rw [← decide_not]; exact decide_eq_decide.mpr List.not_lt
  unfold execOp; simp [ho, r.eval hx, r.eval hy, eqGuard, binOp, Op.stringOp, bl_eq, ← e]
/-- x[i] of an array value: one cell. -/
theorem y_ixv {t l e : Nat} {x ix : Operand} {k : IntKind} {q : Int} {us : List Value} {v : Value} (ho : o.op = .index t x ix) (hx : env.ev x = some (.agg us.toArray)) (hi : env.ev ix = some (.int k q)) (ht : P.underlying t = some (.array l e)) (hs : (P.info? e).map (·.size) = some 1) (hp : plainB P e = true) (h0 : 0 ≤ q) (h1 : q < l) (hv : us[q.toNat]? = some v) : Yld P n env S o v := fun a r w _ => by
  have hA : (isAgg e).run P w = .ok false w := by
    unfold plainB at hp
    cases hu' : P.underlying e with
    | none => simp [hu'] at hp
    | some d =>
      unfold isAgg
      simp only [Sem.run_bind, run_underlying hu', Result.andThen_ok]
      cases d <;> simp [hu'] at hp <;> rfl
  cases hq : P.info? e with
  | none => simp [hq] at hs
  | some i =>
    have hs : i.size = 1 := by simpa [hq] using hs
    unfold execOp
    simp [ho, r.eval hx, r.eval hi, Instr.index, asIntOf, run_underlying ht, h0, h1, sizeOf, typeInfo, hq, hs, part, hA, hv]
theorem y_buildA {t l e m : Nat} {ps : List (Nat × Operand)} {vs zs cells : List Value} (ho : o.op = .build t ps.toArray) (hx : env.evs (ps.map (·.2)) = some vs) (ht : P.underlying t = some (.array l e)) (hs : (P.info? e).map (·.size) = some m) (hz : zeroCells P t = some zs)
    (hf : Instr.fill (fun i => some (i * m, m)) zs.toArray ((ps.map (·.1)).zip vs) = some cells.toArray) : Yld P n env S o (.agg cells.toArray) := fun a r w _ => by
  have e' : (ps.toArray.map fun (i, x) => (i, a.eval x)).toList = (ps.map (·.1)).zip vs := by
    rw [← r.evals hx]
    simp only [List.map_toArray, List.map_map]
    clear ho hx hf
    induction ps with
    | nil => rfl
    | cons p ps ih => obtain ⟨i, x⟩ := p; simpa using ih
  unfold zeroCells at hz
  cases hq : P.info? t with
  | none => simp [hq] at hz
  | some it =>
    cases hzz : it.zero with
    | none => simp [hq, hzz] at hz
    | some z =>
      have hz' : z.cells = zs.toArray := by simp [hq, hzz] at hz; rw [← hz]
      cases hqe : P.info? e with
      | none => simp [hqe] at hs
      | some i =>
        have hs : i.size = m := by simpa [hqe] using hs
        have hb : (Instr.build t (ps.toArray.map fun (i, x) => (i, a.eval x))).run P w = .ok (.agg cells.toArray) w := by
          unfold Instr.build
          simp only [e']
          simp [zeroValue, typeInfo, hq, hzz, run_underlying ht, sizeOf, hqe, hs, hz', hf]
        unfold execOp
        simp only [ho]
        simp only [Sem.run_bind, hb, Result.andThen_ok]
        rfl
theorem y_neg {x : Operand} {t : Nat} {k : IntKind} {p c : Int} (ho : o.op = .unOp .neg t x) (hx : env.ev x = some (.int k p)) (hw : k.wrap (0 - p) = c) : Yld P n env S o (.int k c) := fun a r w _ => by
  unfold execOp; simp only [Int.zero_sub] at hw; simp [ho, r.eval hx, Op.unary, Op.intArith, hw]
/-- &s[p:][q] of an own row. -/
theorem y_ixav {t e m g l c : Nat} {x ix : Operand} {k : IntKind} {p q : Int} (ho : o.op = .indexAddr t x ix) (hx : env.ev x = some (.slice (some ⟨g, 0 + p.toNat * m, none⟩) l c)) (hi : env.ev ix = some (.int k q)) (ht : elemSize P t = some (e, m)) (hp : 0 ≤ p) (h0 : 0 ≤ q) (h1 : q < l) :
    Yld P n env S o (.pointer (some ⟨g, 0 + (p + q).toNat * m, none⟩)) := by
  have h := y_ixa (P := P) (n := n) (S := S) ho hx hi ht h0 h1
  rw [show 0 + (p + q).toNat * m = 0 + p.toNat * m + q.toNat * m by rw [Int.toNat_add hp h0, Nat.add_mul]; omega]
  exact h
end
end Go.Proofs.YtngofknckkiboaaGreatDoor

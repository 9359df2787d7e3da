/- Own rows that are cut, cleared and lent. -/
import Derived.Test.YtmajjdpioillaaaDoorSv
set_option linter.unusedVariables false
set_option linter.unusedSimpArgs false
namespace Go.Proofs.YtmajjdpioillaaaDoor
open Go.RowKit

/-- Others changed their own blocks. -/
theorem St.other {X Y : List Nat} {w w' : World} {H : Heap} {K : List Kf} (h : St X w H K) (hf : Fr Y w w') (hY : ∀ y ∈ Y, y ∈ X) : St X w' H K :=
  ⟨h.hp.keep hf (fun k hk hy => h.dj k (hY k hy) hk), fun k hk => k.st (h.kr k hk) (hf.mono fun y hy => List.mem_append_right _ (hY y hy)) (fun _ hy => .inl hy), fun x hx => Nat.lt_of_lt_of_le (h.lo x hx) hf.size, h.dj⟩
theorem Ow.cut {α : Type} {enc : α → List Value} {A : Option Addr} {c m l : Nat} {xs : List α} {sp : List Value} (hm : ∀ x, (enc x).length = m) (h : Ow A l c m (xs.flatMap enc) sp) (hl : l = xs.length) (k : Nat) :
    Ow A (xs.take k).length c m ((xs.take k).flatMap enc) ((xs.drop k).flatMap enc ++ sp) := by
  subst hl
  refine ⟨fl_len hm _, ?_⟩
  rcases h.2 with ⟨h1, h2, h3, h4⟩ | ⟨g, h1, h2, h3, h4⟩
  · have : xs = [] := List.eq_nil_of_length_eq_zero h2
    subst this
    exact .inl ⟨h1, by simp, h3, by simp [h4]⟩
  · refine .inr ⟨g, h1, ?_, ?_, h4⟩
    · rw [← List.append_assoc, ← List.flatMap_append, List.take_append_drop]; exact h2
    · rw [List.length_take]; omega
theorem cut_cells {α : Type} {enc : α → List Value} {xs : List α} {sp : List Value} (k : Nat) : xs.flatMap enc ++ sp = (xs.take k).flatMap enc ++ ((xs.drop k).flatMap enc ++ sp) := by
  rw [← List.append_assoc, ← List.flatMap_append, List.take_append_drop]
theorem keys_in {k : Option Nat} {o : Obj} {i j : Nat} (H : Heap) (idx : List Nat) (hj : (pickL H idx)[j]? = some (k, o)) (hi : pickL H [i] = [(k, o)]) {y : Nat} (hy : y ∈ keys (pickL H [i])) : y ∈ keys (pickL H idx) := by
  rw [hi] at hy
  cases k with
  | none => simp [keys] at hy
  | some g => simp [keys] at hy; subst hy; exact mem_keys.2 ⟨j, o, hj⟩
section
variable {P : Program} {n : Nat} {env : Env} {S : World → Prop} {o : Oper} {w : World} {H : Heap} {K : Env → World → Prop} {α : Type} {enc : α → List Value}
theorem y_cut0M {t e m c l : Nat} {A : Option Addr} {xs : List α} {x : Operand} {lo hi : Option Operand} {q : Int} {sp : List Value} (ho : o.op = .slice t x lo hi none) (hx : env.ev x = some (.slice A l c)) (hl : l = xs.length) (ht : elemSize P t = some (e, m)) (hlo : cutLo env lo = some 0) (hhi : cutHi env l hi = some q)
    (h1 : 0 ≤ q) (h2 : q ≤ xs.length) (how : Ow A l c m (xs.flatMap enc) sp) : Yld P n env S o (.slice A (xs.take q.toNat).length c) := by
  subst hl
  have hlc : xs.length ≤ c := by rcases how.2 with ⟨_, h, h', _⟩ | ⟨g, _, _, h, _⟩ <;> omega
  have := y_cutl (P := P) (n := n) (S := S) ho hx ht hlo hhi (by omega) h1 (by omega) hlc
  have e1 : (if c = (0 : Int).toNat then A else A.map (·.add ((0 : Int).toNat * m))) = A := by
    split
    · rfl
    · cases A with
      | none => rfl
      | some a => simp [Addr.add]
  rw [e1] at this
  have e2 : (xs.take q.toNat).length = q.toNat - (0 : Int).toNat := by rw [List.length_take]; omega
  rw [e2]
  exact this
theorem y_cuttM {t e m c g l : Nat} {xs : List α} {x : Operand} {lo hi : Option Operand} {p : Int} {sp : List Value} (ho : o.op = .slice t x lo hi none) (hx : env.ev x = some (.slice (some ⟨g, 0, none⟩) l c)) (hl : l = xs.length) (ht : elemSize P t = some (e, m)) (hlo : cutLo env lo = some p) (hhi : cutHi env l hi = some (l : Int))
    (h0 : 0 ≤ p) (h1 : p < xs.length) (how : Ow (some ⟨g, 0, none⟩) l c m (xs.flatMap enc) sp) : Yld P n env S o (.slice (some ⟨g, 0 + p.toNat * m, none⟩) (l - p.toNat) (c - p.toNat)) := by
  subst hl
  have hlc : xs.length ≤ c := by rcases how.2 with ⟨_, h, h', _⟩ | ⟨g, _, _, h, _⟩ <;> omega
  have := y_cutlS (P := P) (n := n) (S := S) ho hx ht hlo hhi h0 (by omega) (by omega) hlc
  rw [cutAd_in (by omega)] at this
  simpa using this
/-- The end of an own row is cleared. -/
theorem a_clearM {t e m c c' i g l : Nat} {x : Operand} {xs : List α} {sp z : List Value} {u : α} {p : Int} (ho : o.op = .call { callee := .builtin .clear, args := #[x], argTypes := #[t] }) (hd : o.dst = none)
    (hx : env.ev x = some (.slice (some ⟨g, 0 + p.toNat * m, none⟩) (l - p.toNat) c')) (hl : l = xs.length) (ht : elemSize P t = some (e, m)) (hz : zeroCells P e = some z) (hzu : z = enc u) (hm : ∀ x, (enc x).length = m) (h1 : ∀ v ∈ enc u, v.oneCell' = true)
    (how : Ow (some ⟨g, 0, none⟩) l c m (xs.flatMap enc) sp) (h0 : 0 ≤ p) (hp : p ≤ xs.length) (h : Hp w H) (hi : H[i]? = some (blkOf (some ⟨g, 0, none⟩), Cl (xs.flatMap enc ++ sp) e))
    (hK : ∀ w', Ow (some ⟨g, 0, none⟩) l c m ((xs.take p.toNat ++ List.replicate (xs.length - p.toNat) u).flatMap enc) sp → Hp w' (H.set i (blkOf (some ⟨g, 0, none⟩), Cl ((xs.take p.toNat ++ List.replicate (xs.length - p.toNat) u).flatMap enc ++ sp) e)) → Fr [g] w w' → K env w') : Act1 P n env w o K := by
  subst hzu
  subst hl
  have hlen := fl_len hm xs
  have hpl : p.toNat ≤ xs.length := by omega
  have hle : p.toNat * m ≤ xs.length * m := Nat.mul_le_mul_right m hpl
  have hs : (xs.length - p.toNat) * m = xs.length * m - p.toNat * m := Nat.sub_mul ..
  refine a_clear ho hd hx ht hz (hm u) h1 h hi (by rw [List.length_append, hlen]; omega) fun w' hp' hf => ?_
  have e1 : (xs.flatMap enc ++ sp).take (0 + p.toNat * m) ++ (List.replicate (xs.length - p.toNat) (enc u)).flatten ++ (xs.flatMap enc ++ sp).drop (0 + p.toNat * m + (xs.length - p.toNat) * m) = (xs.take p.toNat ++ List.replicate (xs.length - p.toNat) u).flatMap enc ++ sp := by
    rw [Nat.zero_add, List.take_append_of_le_length (by omega), fl_take hm, List.drop_append, List.drop_of_length_le (by omega), hlen, show p.toNat * m + (xs.length - p.toNat) * m - xs.length * m = 0 by omega, List.flatMap_append, rep_flat]
    simp
  rw [e1] at hp'
  refine hK w' ⟨?_, ?_⟩ hp' hf
  · rw [fl_len hm, List.length_append, List.length_take, List.length_replicate, show min p.toNat xs.length + (xs.length - p.toNat) = xs.length by omega]
  · rcases how.2 with ⟨h2, _⟩ | ⟨g', e2, h3, h4, h5⟩
    · cases h2
    · refine .inr ⟨g', e2, ?_, h4, h5⟩
      rw [← h3, List.length_append, List.length_append, fl_len hm, hlen, List.length_append, List.length_take, List.length_replicate, show min p.toNat xs.length + (xs.length - p.toNat) = xs.length by omega]
end
end Go.Proofs.YtmajjdpioillaaaDoor

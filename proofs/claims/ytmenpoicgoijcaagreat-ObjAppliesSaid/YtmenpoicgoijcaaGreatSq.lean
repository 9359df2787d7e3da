/- '==' between two struct values whose fields are numbers, strings and bools. -/
import Derived.Test.YtmenpoicgoijcaaGreatSp
import Derived.Laws.StructEq
namespace Go.Proofs.YtmenpoicgoijcaaGreat
open Go.RowKit
section
variable {P : Program} {n : Nat} {env : Env} {S : World → Prop} {o : Oper}
end
section
variable {P : Program} {n : Nat} {env : Env} {S : World → Prop} {o : Oper}
theorem y_eqnl {x y : Operand} {t u e l c l' c' : Nat} {A : Option Addr} (ho : o.op = .binOp .eql t x y u) (hx : env.ev x = some (.slice A l c)) (hy : env.ev y = some (.slice none l' c')) (ht : P.underlying t = some (.slice e)) : Yld P n env S o (.bool A.isNone) := fun a ra w _ => by
  have h : ∀ d : Nat, (Op.equalIn (d + 1) t (.slice A l c) (.slice none l' c')).run P w = .ok A.isNone w := fun d => by
    unfold Op.equalIn; cases A <;> simp [run_underlying ht]
  unfold execOp
  simp only [ho, ra.eval hx, ra.eval hy, eqGuard, binOp]
  simp [Op.equal, Op.maxDepth, h 9999]
end
structure New (w w' : World) (H1 : Heap) : Prop where
  fr : Fr [] w w'
  hp : Hp w' H1
  nw : ∀ k ∈ keys H1, w.heap.size ≤ k
structure Mod (w w' : World) (Hx H1 : Heap) : Prop where
  fr : Fr (keys Hx) w w'
  hp : Hp w' H1
  nw : ∀ k ∈ keys H1, k ∈ keys Hx ∨ w.heap.size ≤ k
theorem Hp.add {w w' : World} {H H1 : Heap} (h : Hp w H) (m : New w w' H1) : Hp w' (H ++ H1) :=
  Hp.after (Hx := []) (X := []) (by simpa using h) (by simp) m.fr m.hp fun k hk => .inr (m.nw k hk)
theorem pickL_append (H : Heap) : ∀ (a b : List Nat), pickL H (a ++ b) = pickL H a ++ pickL H b
  | [], b => rfl
  | i :: a, b => by
    simp only [List.cons_append, pickL, pickL_append H a b]
    cases H[i]? <;> rfl
theorem Hp.call {w w' : World} {H H1 Hx : Heap} (h : Hp w H) (others idx : List Nat) (hn : (others ++ idx).Nodup) (hx : pickL H idx = Hx) (m : Mod w w' Hx H1) : Hp w' (pickL H others ++ H1) := by
  have h1 := h.pk (others ++ idx) hn
  rw [pickL_append, hx] at h1
  exact Hp.after h1 (fun _ h => h) m.fr m.hp m.nw
theorem Hp.addNone {w : World} {H : Heap} (h : Hp w H) (o : Obj) : Hp w (H ++ [(none, o)]) := Hp.after (Hx := []) (X := []) (by simpa using h) (by simp) (Fr.refl _ _) (⟨fun i g o' hi => by
    match i, hi with
    | 0, hi => simp at hi
    | i + 1, hi => simp at hi, fun i j g o' o'' hi => by
    match i, hi with
    | 0, hi => simp at hi
    | i + 1, hi => simp at hi⟩ : Hp w [(none, o)]) (by simp [keys])
theorem New.refl (w : World) : New w w [] := ⟨Fr.refl _ _, Hp.nil w, by simp [keys]⟩
theorem New.drew {w w' : World} {H1 : Heap} (h : New w w' H1) : New w w'.drew H1 := ⟨h.fr.step0 (Fr.drew _), h.hp.drew, h.nw⟩
end Go.Proofs.YtmenpoicgoijcaaGreat

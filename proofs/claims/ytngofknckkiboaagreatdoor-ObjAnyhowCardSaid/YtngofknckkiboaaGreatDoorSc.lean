/- The rules of the walks once more, with their closed conditions as one equation: the printed walks are shorter. -/
import Derived.Test.YtngofknckkiboaaGreatDoorSr
import Derived.Test.YtngofknckkiboaaGreatDoorSe
set_option linter.unusedVariables false
set_option linter.unusedSimpArgs false
namespace Go.Proofs.YtngofknckkiboaaGreatDoor
open Go.RowKit

section
variable [Dfs] {P : Program} {n d : Nat} {Q : EQ} {env : Env} {w : World} {o : Oper} {ops : Array Oper} {l : List Oper} {v : Value} {x y : Operand} {K : Env → World → Prop} {c : Code}
theorem sq {x y : Code} (h : ∀ K : Env → World → Prop, (∀ e v, Wp P n y Q e v → K e v) → Wp P n x (Th K Q) env w) : Wp P n (.seq x y) Q env w := Wp_seq h
theorem rg {id : Nat} {l : List Oper} (h : Ls P n l.toArray Q l env w) (hnd : l.all ndB = true := by rfl) : Wp P n (.region id l.toArray false) Q env w := Wp_region h hnd
theorem Ln (hK : ∀ e v, Wp P n c Q e v → K e v) (h : Wp P n c Q env w) : Ls P n ops (Th K Q) [] env w := Ls_nil (Th_n (hK _ _ h))
theorem sk (hK : ∀ e v, Wp P n c Q e v → K e v) (h : Wp P n c Q env w) : Wp P n .skip (Th K Q) env w := Wp_skip (Th_n (hK _ _ h))
theorem Ly (h : (o.guard, o.dst, Nat.blt d n) = (none, some d, true)) (hy : Yld P n env (· = w) o v) (hk : Ls P n ops Q l ((d, v) :: env) w) : Ls P n ops Q (o :: l) env w := by
  simp only [Prod.mk.injEq] at h; exact Ls_y (wtd0 h.1) h.2.1 h.2.2 hy hk
theorem La (h : o.guard = none) (hk : Act1 P n env w o (fun env' w' => Ls P n ops Q l env' w')) : Ls P n ops Q (o :: l) env w := Ls_a (wtd0 h) hk
theorem Lm (h : (o.guard, o.dst, Nat.blt d n, o.op, env.ev x) = (none, some d, true, .move x, some v)) (hk : Ls P n ops Q l ((d, v) :: env) w) : Ls P n ops Q (o :: l) env w := by
  simp only [Prod.mk.injEq] at h; exact Lmv h.1 h.2.1 h.2.2.1 h.2.2.2.1 h.2.2.2.2 hk
theorem Ls' (h : (o.guard, o.dst, Nat.blt d n, o.op, env.ev x) = (none, some d, true, .assign x, some v)) (hk : Ls P n ops Q l ((d, v) :: env) w) : Ls P n ops Q (o :: l) env w := by
  simp only [Prod.mk.injEq] at h; exact Las h.1 h.2.1 h.2.2.1 h.2.2.2.1 h.2.2.2.2 hk
theorem Lx {i : Nat} {vs : Array Value} (h : (o.guard, o.dst, Nat.blt d n, o.op, env.ev x, vs[i]?) = (none, some d, true, .extract x i, some (.tuple vs), some v)) (hk : Ls P n ops Q l ((d, v) :: env) w) : Ls P n ops Q (o :: l) env w := by
  simp only [Prod.mk.injEq] at h; exact Lex h.1 h.2.1 h.2.2.1 h.2.2.2.1 h.2.2.2.2.1 h.2.2.2.2.2 hk
theorem LsF {j s : Nat} {b : Bool} (h : (o.guard, (ops[j]?).bind (·.dst), env.get s, o.dst, Nat.blt d n) = (some (j, b), some s, some (.bool (!b)), some d, true)) (hk : Ls P n ops Q l ((d, undef) :: env) w) : Ls P n ops Q (o :: l) env w := by
  simp only [Prod.mk.injEq] at h; exact Ls_s (wtdF h.1 h.2.1 h.2.2.1) h.2.2.2.1 h.2.2.2.2 hk
theorem LsU {j s : Nat} {b : Bool} (h : (o.guard, (ops[j]?).bind (·.dst), env.get s, o.dst, Nat.blt d n) = (some (j, b), some s, some undef, some d, true)) (hk : Ls P n ops Q l ((d, undef) :: env) w) : Ls P n ops Q (o :: l) env w := by
  simp only [Prod.mk.injEq] at h; exact Ls_s (wtdU h.1 h.2.1 h.2.2.1) h.2.2.2.1 h.2.2.2.2 hk
theorem LyT {j s : Nat} {b : Bool} (h : (o.guard, (ops[j]?).bind (·.dst), env.get s, o.dst, Nat.blt d n) = (some (j, b), some s, some (.bool b), some d, true)) (hy : Yld P n env (· = w) o v) (hk : Ls P n ops Q l ((d, v) :: env) w) : Ls P n ops Q (o :: l) env w := by
  simp only [Prod.mk.injEq] at h; exact Ls_y (wtdT h.1 h.2.1 h.2.2.1) h.2.2.2.1 h.2.2.2.2 hy hk
theorem LaT {j s : Nat} {b : Bool} (h : (o.guard, (ops[j]?).bind (·.dst), env.get s) = (some (j, b), some s, some (.bool b))) (hk : Act1 P n env w o (fun env' w' => Ls P n ops Q l env' w')) : Ls P n ops Q (o :: l) env w := by
  simp only [Prod.mk.injEq] at h; exact Ls_a (wtdT h.1 h.2.1 h.2.2) hk
/-! conditions: what a bool says -/
section
variable {b : Operand} {c1 c2 : Code} {t : Bool} {p : Prop} [Decidable p]
theorem cB (hb : env.ev b = some (.bool t)) (h1 : t = true → Wp P n c1 Q env w) (h2 : ¬ t = true → Wp P n c2 Q env w) : Wp P n (.cond b c1 c2) Q env w := Wp_cond hb h1 fun h => h2 (by simp [h])
theorem cD (hb : env.ev b = some (.bool (decide p))) (h1 : p → Wp P n c1 Q env w) (h2 : ¬ p → Wp P n c2 Q env w) : Wp P n (.cond b c1 c2) Q env w := Wp_cond hb (fun h => h1 (of_decide_eq_true h)) fun h => h2 (of_decide_eq_false h)
theorem cE {α : Type} [BEq α] [LawfulBEq α] {p q : α} (hb : env.ev b = some (.bool (p == q))) (h1 : p = q → Wp P n c1 Q env w) (h2 : ¬ p = q → Wp P n c2 Q env w) : Wp P n (.cond b c1 c2) Q env w := Wp_cond hb (fun h => h1 (by simpa using h)) fun h => h2 (by simpa using h)
theorem cN {α : Type} [BEq α] [LawfulBEq α] {p q : α} (hb : env.ev b = some (.bool (p != q))) (h1 : ¬ p = q → Wp P n c1 Q env w) (h2 : p = q → Wp P n c2 Q env w) : Wp P n (.cond b c1 c2) Q env w := Wp_cond hb (fun h => h1 (by simpa using h)) fun h => h2 (by simpa using h)
theorem cBn (hb : env.ev b = some (.bool (!t))) (h1 : ¬ t = true → Wp P n c1 Q env w) (h2 : t = true → Wp P n c2 Q env w) : Wp P n (.cond b c1 c2) Q env w := Wp_cond hb (fun h => h1 (by simpa using h)) fun h => h2 (by simpa using h)
theorem cDn (hb : env.ev b = some (.bool (!decide p))) (h1 : ¬ p → Wp P n c1 Q env w) (h2 : p → Wp P n c2 Q env w) : Wp P n (.cond b c1 c2) Q env w := Wp_cond hb (fun h => h1 (by simpa using h)) fun h => h2 (by simpa using h)
variable {s : Nat}
theorem bB (hb : env.get s = some (.bool t)) (h1 : t = true → Ls P n ops Q l ((s, .bool true) :: env) w) (h2 : ¬ t = true → Ls P n ops Q l ((s, .bool false) :: env) w) : Ls P n ops Q l env w := Ls_bool s hb h1 fun h => h2 (by simp [h])
theorem bD (hb : env.get s = some (.bool (decide p))) (h1 : p → Ls P n ops Q l ((s, .bool true) :: env) w) (h2 : ¬ p → Ls P n ops Q l ((s, .bool false) :: env) w) : Ls P n ops Q l env w := Ls_bool s hb (fun h => h1 (of_decide_eq_true h)) fun h => h2 (of_decide_eq_false h)
theorem bE {α : Type} [BEq α] [LawfulBEq α] {p q : α} (hb : env.get s = some (.bool (p == q))) (h1 : p = q → Ls P n ops Q l ((s, .bool true) :: env) w) (h2 : ¬ p = q → Ls P n ops Q l ((s, .bool false) :: env) w) : Ls P n ops Q l env w := Ls_bool s hb (fun h => h1 (by simpa using h)) fun h => h2 (by simpa using h)
theorem bN {α : Type} [BEq α] [LawfulBEq α] {p q : α} (hb : env.get s = some (.bool (p != q))) (h1 : ¬ p = q → Ls P n ops Q l ((s, .bool true) :: env) w) (h2 : p = q → Ls P n ops Q l ((s, .bool false) :: env) w) : Ls P n ops Q l env w := Ls_bool s hb (fun h => h1 (by simpa using h)) fun h => h2 (by simpa using h)
theorem bBn (hb : env.get s = some (.bool (!t))) (h1 : ¬ t = true → Ls P n ops Q l ((s, .bool true) :: env) w) (h2 : t = true → Ls P n ops Q l ((s, .bool false) :: env) w) : Ls P n ops Q l env w := Ls_bool s hb (fun h => h1 (by simpa using h)) fun h => h2 (by simpa using h)
theorem bDn (hb : env.get s = some (.bool (!decide p))) (h1 : ¬ p → Ls P n ops Q l ((s, .bool true) :: env) w) (h2 : p → Ls P n ops Q l ((s, .bool false) :: env) w) : Ls P n ops Q l env w := Ls_bool s hb (fun h => h1 (by simpa using h)) fun h => h2 (by simpa using h)
end
end
section
variable [Dfs] {P : Program} {n : Nat} {env : Env} {S : World → Prop} {o : Oper} {v : Value} {x y : Operand} {t u : Nat} {k : IntKind} {p q : Int}
theorem yf {s f g k off : Nat} (h : (o.op, env.ev x) = (.fieldAddr s x f, some (.pointer (some ⟨g, k, none⟩)))) (hf : fieldOff P s f = some off) : Yld P n env S o (.pointer (some ⟨g, k + off, none⟩)) := by
  simp only [Prod.mk.injEq] at h; exact y_fld h.1 h.2 hf
theorem yT {c : Operand} (h : (o.op, env.ev c, env.ev x) = (.pick c x y, some (.bool true), some v)) : Yld P n env S o v := by simp only [Prod.mk.injEq] at h; exact y_pick_t h.1 h.2.1 h.2.2
theorem yF {c : Operand} (h : (o.op, env.ev c, env.ev y) = (.pick c x y, some (.bool false), some v)) : Yld P n env S o v := by simp only [Prod.mk.injEq] at h; exact y_pick_f h.1 h.2.1 h.2.2
theorem yn {b : Bool} (h : (o.op, env.ev x) = (.unOp .not t x, some (.bool b))) : Yld P n env S o (.bool !b) := by simp only [Prod.mk.injEq] at h; exact y_not h.1 h.2
theorem yeq (h : (o.op, env.ev x, env.ev y) = (.binOp .eql t x y u, some (.int k p), some (.int k q))) : Yld P n env S o (.bool (p == q)) := by simp only [Prod.mk.injEq] at h; exact y_eq h.1 h.2.1 h.2.2
theorem yne (h : (o.op, env.ev x, env.ev y) = (.binOp .neq t x y u, some (.int k p), some (.int k q))) : Yld P n env S o (.bool (p != q)) := by simp only [Prod.mk.injEq] at h; exact y_ne h.1 h.2.1 h.2.2
theorem ylt (h : (o.op, env.ev x, env.ev y) = (.binOp .lss t x y u, some (.int k p), some (.int k q))) : Yld P n env S o (.bool (decide (p < q))) := by simp only [Prod.mk.injEq] at h; exact y_lt h.1 h.2.1 h.2.2
theorem yle (h : (o.op, env.ev x, env.ev y) = (.binOp .leq t x y u, some (.int k p), some (.int k q))) : Yld P n env S o (.bool (decide (p ≤ q))) := by simp only [Prod.mk.injEq] at h; exact y_le h.1 h.2.1 h.2.2
theorem ygt (h : (o.op, env.ev x, env.ev y) = (.binOp .gtr t x y u, some (.int k p), some (.int k q))) : Yld P n env S o (.bool (decide (q < p))) := by simp only [Prod.mk.injEq] at h; exact y_gt h.1 h.2.1 h.2.2
theorem yge (h : (o.op, env.ev x, env.ev y) = (.binOp .geq t x y u, some (.int k p), some (.int k q))) : Yld P n env S o (.bool (decide (q ≤ p))) := by simp only [Prod.mk.injEq] at h; exact y_ge h.1 h.2.1 h.2.2
theorem yll {e : Nat} {b : Option Addr} {l c : Nat} (h : (o.op, env.ev x) = (.call { callee := .builtin .len, args := #[x], argTypes := #[t] }, some (.slice b l c))) (ht : P.underlying t = some (.slice e)) : Yld P n env S o (.int .i64 l) := by simp only [Prod.mk.injEq] at h; exact y_lenl h.1 h.2 ht
end
section
variable [Dfs] {P : Program} {n d : Nat} {env : Env} {o : Oper} {v u : Value} {x y : Operand} {t : Nat} {X X0 : List Nat} {w w0 : World} {H : Heap} {K : List Kf} {cs ds us : List Value} {g k m ty : Nat} {Kk : Env → World → Prop}
/-! looks at own blocks -/
theorem yl (i : Nat) (ht : plainB P t = true) (st : St X w H K) (h : (o.op, env.ev x, H[i]?, cs[k]?) = (.load t x, some (.pointer (some ⟨g, k, none⟩)), some (some g, Cl cs ty), some v)) : Yld P n env (· = w) o v := by
  simp only [Prod.mk.injEq] at h; exact y_load h.1 h.2.1 ht (fun _ e => e ▸ st.hp) h.2.2.1 h.2.2.2
theorem yw (i : Nat) (ht : aggSize P t = some m) (st : St X w H K) (h : (o.op, env.ev x, H[i]?, cs.length) = (.load t x, some (.pointer (some ⟨g, 0, none⟩)), some (some g, Cl cs ty), m)) : Yld P n env (· = w) o (.agg cs.toArray) := by
  simp only [Prod.mk.injEq] at h; exact y_loadw h.1 h.2.1 ht (fun _ e => e ▸ st.hp) h.2.2.1 h.2.2.2
theorem ym (i : Nat) (ht : aggSize P t = some m) (st : St X w H K) (h : (o.op, env.ev x, H[i]?, (cs.drop k).take m, ds.length) = (.load t x, some (.pointer (some ⟨g, k, none⟩)), some (some g, Cl cs ty), ds, m)) : Yld P n env (· = w) o (.agg ds.toArray) := by
  simp only [Prod.mk.injEq] at h; exact y_loadm h.1 h.2.1 ht (fun _ e => e ▸ st.hp) h.2.2.1 h.2.2.2.1 h.2.2.2.2
/-! acts, with all that is known of memory -/
theorem Sal (hz : zeroCells P t = some cs) (st : St X w H K) (hF : Fr X0 w0 w) (h : (o.op, o.dst, Nat.blt d n) = (.alloc t, some d, true)) (hk : ∀ g w', St X w' (H ++ [(some g, Cl cs t)]) K → Fr X0 w0 w' → w0.heap.size ≤ g → Kk ((d, .pointer (some ⟨g, 0, none⟩)) :: env) w') : Act1 P n env w o Kk := by
  simp only [Prod.mk.injEq] at h; exact a_alloc h.1 h.2.1 h.2.2 hz st.hp fun g w' hp hf hg => hk g w' (st.push hp hf hg) (hF.step0 hf) (Nat.le_trans hF.size hg)
theorem Sbx (st : St X w H K) (hF : Fr X0 w0 w) (h : (o.op, o.dst, Nat.blt d n, env.ev x) = (.box t x, some d, true, some (.agg us.toArray))) (hk : ∀ g w', St X w' (H ++ [(some g, Cl us t)]) K → Fr X0 w0 w' → w0.heap.size ≤ g → Kk ((d, .pointer (some ⟨g, 0, none⟩)) :: env) w') : Act1 P n env w o Kk := by
  simp only [Prod.mk.injEq] at h; exact a_box h.1 h.2.1 h.2.2.1 h.2.2.2 st.hp fun g w' hp hf hg => hk g w' (st.push hp hf hg) (hF.step0 hf) (Nat.le_trans hF.size hg)
theorem Sb1 (st : St X w H K) (hF : Fr X0 w0 w) (h : (o.op, o.dst, Nat.blt d n, env.ev x, u.cells) = (.box t x, some d, true, some u, #[u])) (hk : ∀ g w', St X w' (H ++ [(some g, Cl [u] t)]) K → Fr X0 w0 w' → w0.heap.size ≤ g → Kk ((d, .pointer (some ⟨g, 0, none⟩)) :: env) w') : Act1 P n env w o Kk := by
  simp only [Prod.mk.injEq] at h; exact a_box1 h.1 h.2.1 h.2.2.1 h.2.2.2.1 h.2.2.2.2 st.hp fun g w' hp hf hg => hk g w' (st.push hp hf hg) (hF.step0 hf) (Nat.le_trans hF.size hg)
omit [Dfs] in
theorem frS {g : Nat} {w' : World} (hF : Fr X0 w0 w) (hf : Fr [g] w w') (hg : g ∈ X0 ∨ w0.heap.size ≤ g) : Fr X0 w0 w' := hF.step hf fun y hy => by simp only [List.mem_singleton] at hy; subst hy; exact hg
omit [Dfs] in
theorem all_one (h : us.all Value.oneCell' = true) : ∀ v ∈ us, v.oneCell' = true := fun v hv => List.all_eq_true.1 h v hv
theorem Ssw (i : Nat) (ht : (P.info? t).map (·.size) = some m) (st : St X w H K) (hF : Fr X0 w0 w) (hg : g ∈ X0 ∨ w0.heap.size ≤ g) (h : (o.op, o.dst, env.ev x, env.ev y, us.length, us.all Value.oneCell', H[i]?, cs.length) = (.store t x y, none, some (.pointer (some ⟨g, 0, none⟩)), some (.agg us.toArray), m, true, some (some g, Cl cs ty), us.length)) (hk : ∀ w', St X w' (H.set i (some g, Cl us ty)) K → Fr X0 w0 w' → Kk env w') : Act1 P n env w o Kk := by
  simp only [Prod.mk.injEq] at h
  obtain ⟨h1, h2, h3, h4, h5, h6, h7, h8⟩ := h
  exact a_storew (i := i) h1 h2 h3 h4 ht h5 (all_one h6) st.hp h7 h8 fun w' hp hf _ => hk w' (st.set h7 hp hf) (frS hF hf hg)
theorem Ss1 (i : Nat) (ht : (P.info? t).map (·.size) = some 1) (st : St X w H K) (hF : Fr X0 w0 w) (hg : g ∈ X0 ∨ w0.heap.size ≤ g) (h : (o.op, o.dst, env.ev x, env.ev y, u.cells, u.oneCell', H[i]?, Nat.blt k cs.length) = (.store t x y, none, some (.pointer (some ⟨g, k, none⟩)), some u, #[u], true, some (some g, Cl cs ty), true)) (hk : ∀ w', St X w' (H.set i (some g, Cl (cs.set k u) ty)) K → Fr X0 w0 w' → Kk env w') : Act1 P n env w o Kk := by
  simp only [Prod.mk.injEq] at h
  obtain ⟨h1, h2, h3, h4, h5, h6, h7, h8⟩ := h
  exact a_store (i := i) h1 h2 h3 h4 h5 ht h6 st.hp h7 (by simpa using h8) fun w' hp hf _ => hk w' (st.set h7 hp hf) (frS hF hf hg)
theorem Ssm (i : Nat) (ht : (P.info? t).map (·.size) = some m) (st : St X w H K) (hF : Fr X0 w0 w) (hg : g ∈ X0 ∨ w0.heap.size ≤ g) (h : (o.op, o.dst, env.ev x, env.ev y, us.length, us.all Value.oneCell', H[i]?, Nat.ble (k + us.length) cs.length) = (.store t x y, none, some (.pointer (some ⟨g, k, none⟩)), some (.agg us.toArray), m, true, some (some g, Cl cs ty), true)) (hk : ∀ w', St X w' (H.set i (some g, Cl (cs.take k ++ us ++ cs.drop (k + us.length)) ty)) K → Fr X0 w0 w' → Kk env w') : Act1 P n env w o Kk := by
  simp only [Prod.mk.injEq] at h
  obtain ⟨h1, h2, h3, h4, h5, h6, h7, h8⟩ := h
  exact a_storem (i := i) h1 h2 h3 h4 ht h5 (all_one h6) st.hp h7 (by simpa using h8) fun w' hp hf _ => hk w' (st.set h7 hp hf) (frS hF hf hg)
/-- A call that leaves memory as it is. -/
theorem Scl {f : FuncId} {xs : List Operand} {ts : Array TypeId} {vs : List Value} (st : St X w H K) (hF : Fr X0 w0 w) (h : (o.op, o.dst, Nat.blt d n, env.evs xs) = (.call { callee := .value (.func f), args := xs.toArray, argTypes := ts }, some d, true, some vs)) (hc : Fn P f vs w (fun v' w' => v' = v ∧ Fr [] w w')) (hk : ∀ w', St X w' H K → Fr X0 w0 w' → Kk ((d, v) :: env) w') : Act1 P n env w o Kk := by
  simp only [Prod.mk.injEq] at h
  exact a_call h.1 h.2.1 h.2.2.1 h.2.2.2 hc fun v' w' ⟨hv, hf⟩ => by subst hv; exact hk w' (st.keep0 hf) (hF.step0 hf)
theorem Scv {f : Operand} {fv : Value} {xs : List Operand} {ts : Array TypeId} {vs : List Value} (st : St X w H K) (hF : Fr X0 w0 w) (h : (o.op, o.dst, Nat.blt d n, env.ev f, env.evs xs) = (.call { callee := .value f, args := xs.toArray, argTypes := ts }, some d, true, some fv, some vs)) (hc : FnV P fv vs w (fun v' w' => v' = v ∧ Fr [] w w')) (hk : ∀ w', St X w' H K → Fr X0 w0 w' → Kk ((d, v) :: env) w') : Act1 P n env w o Kk := by
  simp only [Prod.mk.injEq] at h
  exact a_callv h.1 h.2.1 h.2.2.1 h.2.2.2.1 h.2.2.2.2 hc fun v' w' ⟨hv, hf⟩ => by subst hv; exact hk w' (st.keep0 hf) (hF.step0 hf)
omit [Dfs] in
theorem St.q {A : Option Addr} {l c m : Nat} {cs : List Value} (h : St X w H K) (i : Nat) (hi : K[i]? = some (kS A l c m cs)) : Sld (keys H ++ X) w A l c m cs := h.k hi
omit [Dfs] in
theorem St.ot {k : Kf} (h : St X w H K) (i : Nat) (hi : K[i]? = some k) : k.p X w := h.out hi
omit [Dfs] in
theorem St.aN (h : St X w H K) (m : Nat) : St X w H (K ++ [kS none 0 0 m []]) := h.addK (kS none 0 0 m []) ⟨Rdx.nil, by simp, Nat.le_refl _, Nat.zero_le _⟩
end

/-! rows that are our own -/
theorem oneS {α : Type} {f : α → Value} (h : ∀ x, (f x).oneCell' = true) : ∀ x, ∀ v ∈ [f x], v.oneCell' = true := fun x v hv => by simp only [List.mem_singleton] at hv; subst hv; exact h x
theorem newB {X0 : List Nat} {w0 : World} {g : Nat} (h : w0.heap.size ≤ g) : ∀ g', blkOf (some (⟨g, 0, none⟩ : Addr)) = some g' → g' ∈ X0 ∨ w0.heap.size ≤ g' := fun g' hg => by simp [blkOf] at hg; subst hg; exact .inr h
theorem newN {X0 : List Nat} {w0 : World} : ∀ g', blkOf none = some g' → g' ∈ X0 ∨ w0.heap.size ≤ g' := fun g' hg => by cases hg
section
variable [Dfs] {α : Type} {enc : α → List Value} {P : Program} {n d : Nat} {env : Env} {o : Oper} {x y : Operand} {t e m by' c sc : Nat} {X X0 : List Nat} {w w0 : World} {H : Heap} {K : List Kf} {A B : Option Addr} {sp z : List Value} {xs ys : List α} {Kk : Env → World → Prop}
/-- append to an own row. -/
theorem Sap (xs ys : List α) (i : Nat) (ht : elemSize P t = some (e, m)) (hz : zeroCells P e = some z) (hby : (P.info? e).map (·.bytes) = some by') (hm : ∀ x, (enc x).length = m) (h1 : ∀ x, ∀ v ∈ enc x, v.oneCell' = true) (how : Ow A xs.length c m (xs.flatMap enc) sp) (hn : ∀ g, blkOf A = some g → g ∈ X0 ∨ w0.heap.size ≤ g) (st : St X w H K) (hF : Fr X0 w0 w)
    (hsrc : ∀ ad, B = some ad → ∀ j u, (ys.flatMap enc)[j]? = some u → w.cell? (ad.add j) = some u) (hB : B = none → ys.length = 0)
    (h : (o.op, o.dst, Nat.blt d n, env.ev x, env.ev y, z.length, Nat.blt 0 m, H[i]?) = (.call { callee := .builtin .append, args := #[x, y], argTypes := #[t, t] }, some d, true, some (.slice A xs.length c), some (.slice B ys.length sc), m, true, some (blkOf A, Cl (xs.flatMap enc ++ sp) e))) (h63 : xs.length + ys.length ≤ 9223372036854775807) (hbytes : (xs.length + ys.length) * by' ≤ 140737488355328)
    (hk : ∀ A' c' sp' w', Ow A' (xs ++ ys).length c' m ((xs ++ ys).flatMap enc) sp' → (∀ g, blkOf A' = some g → g ∈ X0 ∨ w0.heap.size ≤ g) → St X w' (H.set i (blkOf A', Cl ((xs ++ ys).flatMap enc ++ sp') e)) K → Fr X0 w0 w' → Kk ((d, (.slice A' (xs ++ ys).length c')) :: env) w') : Act1 P n env w o Kk := by
  simp only [Prod.mk.injEq] at h
  obtain ⟨h2, h3, h4, h5, h6, h7, h8, h9⟩ := h
  exact a_appM (i := i) h2 rfl h3 h4 h5 h6 ht hz h7 hby (by simpa using h8) hm how st.hp h9 hsrc hB h1 (by unfold maxLen; omega) hbytes fun A' c' sp' w' how' hp hf hnw => hk A' c' sp' w' how' (fun g hg => (hnw g hg).elim (hn g) (fun h => .inr (Nat.le_trans hF.size h))) (st.setAny h9 hp hf hnw) (hF.step hf fun y hy => hn y (by simpa using hy))
/-- []T{x}: a struct. -/
theorem Sb (u : α) (ht : elemSize P t = some (e, m)) (hz : zeroCells P e = some z) (hm : ∀ x, (enc x).length = m) (st : St X w H K) (hF : Fr X0 w0 w) (h : (o.op, o.dst, Nat.blt d n, env.ev x, Nat.ble m 1000) = (.buildSlice t 1 #[(0, x)], some d, true, some (.agg (enc u).toArray), true))
    (hk : ∀ g w', Ow (some ⟨g, 0, none⟩) [u].length 1 m ([u].flatMap enc) [] → (∀ g', blkOf (some ⟨g, 0, none⟩) = some g' → g' ∈ X0 ∨ w0.heap.size ≤ g') → St X w' (H ++ [(blkOf (some ⟨g, 0, none⟩), Cl ([u].flatMap enc ++ []) e)]) K → Fr X0 w0 w' → Kk ((d, .slice (some ⟨g, 0, none⟩) [u].length 1) :: env) w') : Act1 P n env w o Kk := by
  simp only [Prod.mk.injEq] at h
  obtain ⟨h2, h3, h4, h5, h7⟩ := h
  refine a_bsls (us := enc u) h2 h3 h4 h5 ht hz (hm u) (by simpa using h7) st.hp fun g w' hp hf hg => ?_
  have e1 : [u].flatMap enc ++ [] = enc u := by simp
  refine hk g w' ⟨by simp [hm], .inr ⟨g, rfl, by rw [e1, hm]; omega, Nat.le_refl _, by unfold maxLen; decide⟩⟩ (newB (Nat.le_trans hF.size hg)) ?_ (hF.step0 hf)
  rw [e1]; exact st.push hp hf hg
/-- []T{}. -/
theorem Sb0 (ht : elemSize P t = some (e, m)) (hz : zeroCells P e = some z) (st : St X w H K) (hF : Fr X0 w0 w) (h : (o.op, o.dst, Nat.blt d n) = (.buildSlice t 0 #[], some d, true))
    (hk : ∀ g w', Ow (some ⟨g, 0, none⟩) ([] : List α).length 0 m (([] : List α).flatMap enc) [] → (∀ g', blkOf (some ⟨g, 0, none⟩) = some g' → g' ∈ X0 ∨ w0.heap.size ≤ g') → St X w' (H ++ [(blkOf (some ⟨g, 0, none⟩), Cl (([] : List α).flatMap enc ++ []) e)]) K → Fr X0 w0 w' → Kk ((d, .slice (some ⟨g, 0, none⟩) ([] : List α).length 0) :: env) w') : Act1 P n env w o Kk := by
  simp only [Prod.mk.injEq] at h
  refine a_bsl0 h.1 h.2.1 h.2.2 ht hz st.hp fun g w' hp hf hg => ?_
  exact hk g w' ⟨by simp, .inr ⟨g, rfl, by simp, Nat.le_refl _, by unfold maxLen; decide⟩⟩ (newB (Nat.le_trans hF.size hg)) (st.push hp hf hg) (hF.step0 hf)
omit [Dfs] in
/-- A nil slice, as an own row. -/
theorem St.rowN (enc : α → List Value) (st : St X w H K) (hF : Fr X0 w0 w) (m ty : Nat) : St X w (H ++ [(blkOf none, Cl (([] : List α).flatMap enc ++ []) ty)]) K ∧ Ow none ([] : List α).length 0 m (([] : List α).flatMap enc) [] ∧ (∀ g', blkOf none = some g' → g' ∈ X0 ∨ w0.heap.size ≤ g') := ⟨st.addN _, Ow.nil m, newN⟩
end
section
variable [Dfs] {P : Program} {n : Nat} {env : Env} {w : World} {c y : Code} {Q Q1 : EQ} {K : Env → World → Prop}
/-- A loop and what is behind it, by one property: 'none' at its end, 'some' ahead of a round. -/
theorem lp (J : Option Nat → Env → World → Prop) (m0 : Nat) (e0 : Env) (hle : Env.Le e0 env) (h0 : J (some m0) e0 w) (hK : ∀ e v, Wp P n y Q e v → K e v) (hM : ∀ e w, J none e w → Wp P n y Q e w)
    (h : (∀ e' e w, Env.Le e e' → J none e w → K e' w) → ∀ m e w, J (some m) e w → Wp P n c (Th (fun env' w' => ∃ m' e', m' < m ∧ Env.Le e' env' ∧ J (some m') e' w') Q1) e w) : Wp P n (.loop c) Q1 env w :=
  use_out hK (J none) hM fun ho => Wp_loopE (fun m => J (some m)) m0 e0 hle h0 (h ho)
def jq (q : Option Nat) (f : Nat → Prop) (p : Prop) : Prop := match q with | some m => f m | none => p
end
section
variable [Dfs] {P : Program} {n d i : Nat} {env : Env} {S : World → Prop} {Q : EQ} {w : World} {o : Oper} {ops : Array Oper} {pl : List (Bool × Nat)} {v : Value} {x : Operand}
theorem Py (h : (ops[i]?, o.guard, o.dst, Nat.blt d n) = (some o, none, some d, true)) (hy : Yld P n env S o v) (hk : Pl P n ops S Q pl ((d, v) :: env) w) : Pl P n ops S Q ((true, i) :: pl) env w := by
  simp only [Prod.mk.injEq] at h; exact Pl_y h.1 (wtd0 h.2.1) h.2.2.1 h.2.2.2 hy hk
theorem Pm (h : (ops[i]?, o.guard, o.dst, Nat.blt d n, o.op, env.ev x) = (some o, none, some d, true, .move x, some v)) (hk : Pl P n ops S Q pl ((d, v) :: env) w) : Pl P n ops S Q ((true, i) :: pl) env w := by
  simp only [Prod.mk.injEq] at h; exact Pmv h.1 h.2.1 h.2.2.1 h.2.2.2.1 h.2.2.2.2.1 h.2.2.2.2.2 hk
end
theorem stn0 {X : List Nat} {w : World} (hX : Lo X w) : St X w [] [] := St.nil hX
theorem stn1 {X : List Nat} {w : World} {A0 : Option Addr} {l0 c0 m0 : Nat} {s0 : List Value} (hX : Lo X w) (h0 : Sld X w A0 l0 c0 m0 s0) : St X w [] [kS A0 l0 c0 m0 s0] := (stn0 hX).addK (kS A0 l0 c0 m0 s0) h0
theorem stn2 {X : List Nat} {w : World} {A0 : Option Addr} {l0 c0 m0 : Nat} {s0 : List Value} {A1 : Option Addr} {l1 c1 m1 : Nat} {s1 : List Value} (hX : Lo X w) (h0 : Sld X w A0 l0 c0 m0 s0) (h1 : Sld X w A1 l1 c1 m1 s1) : St X w [] [kS A0 l0 c0 m0 s0, kS A1 l1 c1 m1 s1] := (stn1 hX h0).addK (kS A1 l1 c1 m1 s1) h1
theorem stn3 {X : List Nat} {w : World} {A0 : Option Addr} {l0 c0 m0 : Nat} {s0 : List Value} {A1 : Option Addr} {l1 c1 m1 : Nat} {s1 : List Value} {A2 : Option Addr} {l2 c2 m2 : Nat} {s2 : List Value} (hX : Lo X w) (h0 : Sld X w A0 l0 c0 m0 s0) (h1 : Sld X w A1 l1 c1 m1 s1) (h2 : Sld X w A2 l2 c2 m2 s2) : St X w [] [kS A0 l0 c0 m0 s0, kS A1 l1 c1 m1 s1, kS A2 l2 c2 m2 s2] := (stn2 hX h0 h1).addK (kS A2 l2 c2 m2 s2) h2
theorem stn4 {X : List Nat} {w : World} {A0 : Option Addr} {l0 c0 m0 : Nat} {s0 : List Value} {A1 : Option Addr} {l1 c1 m1 : Nat} {s1 : List Value} {A2 : Option Addr} {l2 c2 m2 : Nat} {s2 : List Value} {A3 : Option Addr} {l3 c3 m3 : Nat} {s3 : List Value} (hX : Lo X w) (h0 : Sld X w A0 l0 c0 m0 s0) (h1 : Sld X w A1 l1 c1 m1 s1) (h2 : Sld X w A2 l2 c2 m2 s2) (h3 : Sld X w A3 l3 c3 m3 s3) : St X w [] [kS A0 l0 c0 m0 s0, kS A1 l1 c1 m1 s1, kS A2 l2 c2 m2 s2, kS A3 l3 c3 m3 s3] := (stn3 hX h0 h1 h2).addK (kS A3 l3 c3 m3 s3) h3
theorem stn5 {X : List Nat} {w : World} {A0 : Option Addr} {l0 c0 m0 : Nat} {s0 : List Value} {A1 : Option Addr} {l1 c1 m1 : Nat} {s1 : List Value} {A2 : Option Addr} {l2 c2 m2 : Nat} {s2 : List Value} {A3 : Option Addr} {l3 c3 m3 : Nat} {s3 : List Value} {A4 : Option Addr} {l4 c4 m4 : Nat} {s4 : List Value} (hX : Lo X w) (h0 : Sld X w A0 l0 c0 m0 s0) (h1 : Sld X w A1 l1 c1 m1 s1) (h2 : Sld X w A2 l2 c2 m2 s2) (h3 : Sld X w A3 l3 c3 m3 s3) (h4 : Sld X w A4 l4 c4 m4 s4) : St X w [] [kS A0 l0 c0 m0 s0, kS A1 l1 c1 m1 s1, kS A2 l2 c2 m2 s2, kS A3 l3 c3 m3 s3, kS A4 l4 c4 m4 s4] := (stn4 hX h0 h1 h2 h3).addK (kS A4 l4 c4 m4 s4) h4
theorem stn6 {X : List Nat} {w : World} {A0 : Option Addr} {l0 c0 m0 : Nat} {s0 : List Value} {A1 : Option Addr} {l1 c1 m1 : Nat} {s1 : List Value} {A2 : Option Addr} {l2 c2 m2 : Nat} {s2 : List Value} {A3 : Option Addr} {l3 c3 m3 : Nat} {s3 : List Value} {A4 : Option Addr} {l4 c4 m4 : Nat} {s4 : List Value} {A5 : Option Addr} {l5 c5 m5 : Nat} {s5 : List Value} (hX : Lo X w) (h0 : Sld X w A0 l0 c0 m0 s0) (h1 : Sld X w A1 l1 c1 m1 s1) (h2 : Sld X w A2 l2 c2 m2 s2) (h3 : Sld X w A3 l3 c3 m3 s3) (h4 : Sld X w A4 l4 c4 m4 s4) (h5 : Sld X w A5 l5 c5 m5 s5) : St X w [] [kS A0 l0 c0 m0 s0, kS A1 l1 c1 m1 s1, kS A2 l2 c2 m2 s2, kS A3 l3 c3 m3 s3, kS A4 l4 c4 m4 s4, kS A5 l5 c5 m5 s5] := (stn5 hX h0 h1 h2 h3 h4).addK (kS A5 l5 c5 m5 s5) h5
theorem stn7 {X : List Nat} {w : World} {A0 : Option Addr} {l0 c0 m0 : Nat} {s0 : List Value} {A1 : Option Addr} {l1 c1 m1 : Nat} {s1 : List Value} {A2 : Option Addr} {l2 c2 m2 : Nat} {s2 : List Value} {A3 : Option Addr} {l3 c3 m3 : Nat} {s3 : List Value} {A4 : Option Addr} {l4 c4 m4 : Nat} {s4 : List Value} {A5 : Option Addr} {l5 c5 m5 : Nat} {s5 : List Value} {A6 : Option Addr} {l6 c6 m6 : Nat} {s6 : List Value} (hX : Lo X w) (h0 : Sld X w A0 l0 c0 m0 s0) (h1 : Sld X w A1 l1 c1 m1 s1) (h2 : Sld X w A2 l2 c2 m2 s2) (h3 : Sld X w A3 l3 c3 m3 s3) (h4 : Sld X w A4 l4 c4 m4 s4) (h5 : Sld X w A5 l5 c5 m5 s5) (h6 : Sld X w A6 l6 c6 m6 s6) : St X w [] [kS A0 l0 c0 m0 s0, kS A1 l1 c1 m1 s1, kS A2 l2 c2 m2 s2, kS A3 l3 c3 m3 s3, kS A4 l4 c4 m4 s4, kS A5 l5 c5 m5 s5, kS A6 l6 c6 m6 s6] := (stn6 hX h0 h1 h2 h3 h4 h5).addK (kS A6 l6 c6 m6 s6) h6
theorem stn8 {X : List Nat} {w : World} {A0 : Option Addr} {l0 c0 m0 : Nat} {s0 : List Value} {A1 : Option Addr} {l1 c1 m1 : Nat} {s1 : List Value} {A2 : Option Addr} {l2 c2 m2 : Nat} {s2 : List Value} {A3 : Option Addr} {l3 c3 m3 : Nat} {s3 : List Value} {A4 : Option Addr} {l4 c4 m4 : Nat} {s4 : List Value} {A5 : Option Addr} {l5 c5 m5 : Nat} {s5 : List Value} {A6 : Option Addr} {l6 c6 m6 : Nat} {s6 : List Value} {A7 : Option Addr} {l7 c7 m7 : Nat} {s7 : List Value} (hX : Lo X w) (h0 : Sld X w A0 l0 c0 m0 s0) (h1 : Sld X w A1 l1 c1 m1 s1) (h2 : Sld X w A2 l2 c2 m2 s2) (h3 : Sld X w A3 l3 c3 m3 s3) (h4 : Sld X w A4 l4 c4 m4 s4) (h5 : Sld X w A5 l5 c5 m5 s5) (h6 : Sld X w A6 l6 c6 m6 s6) (h7 : Sld X w A7 l7 c7 m7 s7) : St X w [] [kS A0 l0 c0 m0 s0, kS A1 l1 c1 m1 s1, kS A2 l2 c2 m2 s2, kS A3 l3 c3 m3 s3, kS A4 l4 c4 m4 s4, kS A5 l5 c5 m5 s5, kS A6 l6 c6 m6 s6, kS A7 l7 c7 m7 s7] := (stn7 hX h0 h1 h2 h3 h4 h5 h6).addK (kS A7 l7 c7 m7 s7) h7
end Go.Proofs.YtngofknckkiboaaGreatDoor

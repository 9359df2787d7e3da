/- Small facts that walks want: numbers within their kind, splits on a slot's bool. -/
import Derived.Test.YtngofknckkiboaaGreatDoorSm
import Derived.IntWalk
namespace Go.Proofs.YtngofknckkiboaaGreatDoor
open Go.RowKit

theorem wf_i64 {p : Int} (h : -9223372036854775808 ≤ p ∧ p ≤ 9223372036854775807) : IntKind.i64.wrap p = p := by rw [IntKind.wrap_i64]; omega
theorem wf_u64 {p : Int} (h : 0 ≤ p ∧ p ≤ 18446744073709551615) : IntKind.u64.wrap p = p := by rw [IntKind.wrap_u64]; omega
theorem wf_u32 {p : Int} (h : 0 ≤ p ∧ p ≤ 4294967295) : IntKind.u32.wrap p = p := by rw [IntKind.wrap_u32]; omega
theorem wf_u16 {p : Int} (h : 0 ≤ p ∧ p ≤ 65535) : IntKind.u16.wrap p = p := by rw [IntKind.wrap_u16]; omega
theorem wf_u8 {p : Int} (h : 0 ≤ p ∧ p ≤ 255) : IntKind.u8.wrap p = p := by rw [IntKind.wrap_u8]; omega
theorem wf_i32 {p : Int} (h : -2147483648 ≤ p ∧ p ≤ 2147483647) : IntKind.i32.wrap p = p := by rw [IntKind.wrap_i32]; omega
theorem wm_u8 {p : Int} : IntKind.u8.wrap p = p % 256 := IntKind.wrap_u8 p
theorem wm_u16 {p : Int} : IntKind.u16.wrap p = p % 65536 := IntKind.wrap_u16 p
theorem wm_u32 {p : Int} : IntKind.u32.wrap p = p % 4294967296 := IntKind.wrap_u32 p
theorem wm_u64 {p : Int} : IntKind.u64.wrap p = p % 18446744073709551616 := IntKind.wrap_u64 p
theorem w_succ {k : Nat} (h : k + 1 ≤ 9223372036854775807) : IntKind.i64.wrap ((k : Int) + 1) = ((k + 1 : Nat) : Int) := by rw [IntKind.wrap_i64]; omega
theorem w_addN {a b : Nat} (h : a + b ≤ 9223372036854775807) : IntKind.i64.wrap ((a : Int) + (b : Int)) = ((a + b : Nat) : Int) := by rw [IntKind.wrap_i64]; omega
theorem w_subN {a b : Nat} (h : b ≤ a) (h' : a ≤ 9223372036854775807) : IntKind.i64.wrap ((a : Int) - (b : Int)) = ((a - b : Nat) : Int) := by rw [IntKind.wrap_i64]; omega
theorem w_subNC {a : Nat} (b : Nat) (h : b ≤ a) (h' : a ≤ 9223372036854775807) : IntKind.i64.wrap ((a : Int) - (OfNat.ofNat b : Int)) = ((a - b : Nat) : Int) := by
  have : (OfNat.ofNat b : Int) = (b : Int) := rfl
  rw [this, IntKind.wrap_i64]; omega

section
variable [Dfs] {P : Program} {n : Nat} {Q : EQ} {env : Env} {w : World} {ops : Array Oper}
omit [Dfs] in
theorem get_swap {env : Env} {s : Nat} {u : Value} (hs : env.get s = some u) : ∀ k v, Env.get ((s, u) :: env) k = some v → env.get k = some v := fun k v h => by
  unfold Env.get at h
  by_cases e : s = k
  · subst e
    simp at h
    rw [hs, h]
  · rw [beq_ne e] at h
    exact h
/-- A slot's bool is split. -/
theorem Ls_bool {l : List Oper} {b : Bool} (s : Nat) (hs : env.get s = some (.bool b)) (h1 : b = true → Ls P n ops Q l ((s, .bool true) :: env) w) (h2 : b = false → Ls P n ops Q l ((s, .bool false) :: env) w) : Ls P n ops Q l env w := fun hnd a r => by
  cases b
  · exact h2 rfl hnd a ⟨r.size, r.defers, fun k v hk => r.get k v (get_swap hs k v hk)⟩
  · exact h1 rfl hnd a ⟨r.size, r.defers, fun k v hk => r.get k v (get_swap hs k v hk)⟩
theorem Wp_bool {c : Code} {b : Bool} (s : Nat) (hs : env.get s = some (.bool b)) (h1 : b = true → Wp P n c Q ((s, .bool true) :: env) w) (h2 : b = false → Wp P n c Q ((s, .bool false) :: env) w) : Wp P n c Q env w := fun a r => by
  cases b
  · exact h2 rfl a ⟨r.size, r.defers, fun k v hk => r.get k v (get_swap hs k v hk)⟩
  · exact h1 rfl a ⟨r.size, r.defers, fun k v hk => r.get k v (get_swap hs k v hk)⟩
theorem Pl_bool {S : World → Prop} {b : Bool} {l : List (Bool × Nat)} (s : Nat) (hs : env.get s = some (.bool b)) (h1 : b = true → Pl P n ops S (Qs Q) l ((s, .bool true) :: env) w) (h2 : b = false → Pl P n ops S (Qs Q) l ((s, .bool false) :: env) w) : Pl P n ops S (Qs Q) l env w := by
  cases b
  · exact Pl_mono l _ _ w (get_swap hs) (h2 rfl)
  · exact Pl_mono l _ _ w (get_swap hs) (h1 rfl)
theorem Wp_weakS {c : Code} (e' : Env) (hl : ∀ k v, e'.get k = some v → env.get k = some v) (h : Wp P n c Q e' w) : Wp P n c Q env w := fun a r => h a ⟨r.size, r.defers, fun k v hk => r.get k v (hl k v hk)⟩
/-- At most N rounds of a loop. -/
def WpR (P : Program) (n : Nat) (c : Code) (Q : EQ) (N : Nat) (env : Env) (w : World) : Prop := ∀ a, Rep n env a → Code.roundsIn (Fw Dfs.ro) 0 P c (Lf n Q) N a w
theorem Wp_unroll {c : Code} (N : Nat) (h : WpR P n c Q N env w) : Wp P n (.loop c) Q env w := fun a r => wpIn_loop_rounds N (h a r)
theorem WpR_succ {c : Code} {N : Nat} (h : Wp P n c (Th (WpR P n c Q N) Q) env w) : WpR P n c Q (N + 1) env w := fun a r => by
  rw [roundsIn_succ]
  refine Code.wpIn_mono (fun e a' w' hq => ?_) (h a r)
  obtain ⟨env', r', q⟩ := hq
  cases e with
  | normal => exact q a' r'
  | _ => exact ⟨env', r', q⟩
/-- A loop: what its rounds hand on is an environment of its own. -/
theorem Wp_loopE {c : Code} (I : Nat → Env → World → Prop) (m0 : Nat) (e0 : Env) (hle : Env.Le e0 env) (h0 : I m0 e0 w)
    (h : ∀ m e w, I m e w → Wp P n c (Th (fun env' w' => ∃ m' e', m' < m ∧ Env.Le e' env' ∧ I m' e' w') Q) e w) : Wp P n (.loop c) Q env w :=
  Wp_weak e0 hle (Wp_loop (fun m e w => ∃ e' : Env, (∀ k v, e'.get k = some v → e.get k = some v) ∧ I m e' w) m0 ⟨e0, fun _ _ h => h, h0⟩ fun m e w ⟨e', hl, hi⟩ =>
    Wp_weakS e' hl (Wp_mono (h m e' w hi) fun x v u hq => by
      cases x <;> first | exact hq | (obtain ⟨m', e2, h1, h2, h3⟩ := hq; exact ⟨m', h1, e2, fun k v hk => h2.get k v hk, h3⟩)))
end

section
variable [Dfs] {P : Program} {n : Nat} {env : Env} {S : World → Prop} {o : Oper}
theorem y_shlC {x y : Operand} {t u : Nat} {k ky : IntKind} {p q c : Int} (j : Nat) (m : Int) (ho : o.op = .binOp .shl t x y u) (hx : env.ev x = some (.int k p)) (hy : env.ev y = some (.int ky q)) (h0 : 0 ≤ q) (hj : min q.toNat k.bits = j) (hm : (2 : Int) ^ j = m) (hw : k.wrap (p * m) = c) : Yld P n env S o (.int k c) :=
  y_shl ho hx hy h0 (by rw [hj, hm]; exact hw)
theorem y_shrC {x y : Operand} {t u : Nat} {k ky : IntKind} {p q : Int} (j : Nat) (m : Int) (ho : o.op = .binOp .shr t x y u) (hx : env.ev x = some (.int k p)) (hy : env.ev y = some (.int ky q)) (h0 : 0 ≤ q) (hj : min q.toNat k.bits = j) (hm : (2 : Int) ^ j = m) (hm0 : 0 ≤ m) : Yld P n env S o (.int k (p / m)) :=
  y_shr ho hx hy h0 (by rw [hj, hm, Int.fdiv_eq_ediv_of_nonneg _ hm0])
theorem y_quoP {x y : Operand} {t u : Nat} {k : IntKind} {p q c : Int} (ho : o.op = .binOp .quo t x y u) (hx : env.ev x = some (.int k p)) (hy : env.ev y = some (.int k q)) (hp : 0 ≤ p) (h0 : 0 < q) (hw : k.wrap (p / q) = c) : Yld P n env S o (.int k c) :=
  y_quo ho hx hy (by omega) (by rw [Int.tdiv_eq_ediv_of_nonneg hp]; exact hw)
theorem y_remP {x y : Operand} {t u : Nat} {k : IntKind} {p q : Int} (ho : o.op = .binOp .rem t x y u) (hx : env.ev x = some (.int k p)) (hy : env.ev y = some (.int k q)) (hp : 0 ≤ p) (h0 : 0 < q) : Yld P n env S o (.int k (p % q)) :=
  y_rem ho hx hy (by omega) (Int.tmod_eq_emod_of_nonneg hp)
end
section
variable {Q : EQ} {K : Env → World → Prop} {env : Env} {w : World}
theorem Th_n (h : K env w) : Th K Q .normal env w := h
theorem Th_r (h : Q .ret env w) : Th K Q .ret env w := h
theorem Th_e {i : Nat} (h : Q (.exit i) env w) : Th K Q (.exit i) env w := h
theorem Ib_n {id : Nat} (h : Q .normal env w) : Ib id Q .normal env w := h
theorem Ib_r {id : Nat} (h : Q .ret env w) : Ib id Q .ret env w := h
theorem Ib_hit {id : Nat} (h : Q .normal env w) : Ib id Q (.exit id) env w := by simpa [Ib] using h
theorem Ib_miss {i id : Nat} (hb : Nat.beq i id = false) (h : Q (.exit i) env w) : Ib id Q (.exit i) env w := by simpa [Ib, hb] using h
end

theorem wtdU [Dfs] {n : Nat} {env : Env} {ops : Array Oper} {o : Oper} {j s : Nat} {b : Bool} (hg : o.guard = some (j, b)) (hj : (ops[j]?).bind (·.dst) = some s) (hs : env.get s = some undef) : Wtd n env ops o false := fun a r => by
  have := r.get s _ hs
  simp [Region.wanted, hg, yielded, hj, this, undef]

/-! ### results -/
def Rv (P : Program) (env : Env) (w : World) : ResultVar → Value → Prop
  | .tmp t, v => env.get t = some v
  | .cell p ty, v => ∃ ad, env.get p = some (.pointer (some ad)) ∧ (loadVar ty ad).run P w = .ok v w
section
variable [Dfs] {P : Program} {n : Nat} {env : Env} {w : World} {fn : Func}
theorem ResN1 {r : ResultVar} {v : Value} (h : fn.results = #[r]) (hr : Rv P env w r v) : Res P n fn env w v := fun a ra => by
  cases r with
  | tmp p =>
    have e0 := ra.get p _ hr
    simp [results, h, e0]
  | cell p ty =>
    obtain ⟨ad, f0, g0⟩ := hr
    have e0 := ra.get p _ f0
    simp [results, h, e0, g0, asAddr]
theorem ResN2 {r s : ResultVar} {v u : Value} (h : fn.results = #[r, s]) (hr : Rv P env w r v) (hs : Rv P env w s u) : Res P n fn env w (.tuple #[v, u]) := fun a ra => by
  cases r with
  | tmp p =>
    have e0 := ra.get p _ hr
    cases s with
    | tmp p =>
      have e1 := ra.get p _ hs
      simp [results, h, e0, e1]
    | cell p ty =>
      obtain ⟨ad, f1, g1⟩ := hs
      have e1 := ra.get p _ f1
      simp [results, h, e0, e1, g1, asAddr]
  | cell p ty =>
    obtain ⟨ad, f0, g0⟩ := hr
    have e0 := ra.get p _ f0
    cases s with
    | tmp p =>
      have e1 := ra.get p _ hs
      simp [results, h, e0, g0, asAddr, e1]
    | cell p ty =>
      obtain ⟨ad, f1, g1⟩ := hs
      have e1 := ra.get p _ f1
      simp [results, h, e0, g0, e1, g1, asAddr]
theorem ResN3 {r s t : ResultVar} {v u x : Value} (h : fn.results = #[r, s, t]) (hr : Rv P env w r v) (hs : Rv P env w s u) (ht : Rv P env w t x) : Res P n fn env w (.tuple #[v, u, x]) := fun a ra => by
  cases r with
  | tmp p =>
    have e0 := ra.get p _ hr
    cases s with
    | tmp p =>
      have e1 := ra.get p _ hs
      cases t with
      | tmp p =>
        have e2 := ra.get p _ ht
        simp [results, h, e0, e1, e2]
      | cell p ty =>
        obtain ⟨ad, f2, g2⟩ := ht
        have e2 := ra.get p _ f2
        simp [results, h, e0, e1, e2, g2, asAddr]
    | cell p ty =>
      obtain ⟨ad, f1, g1⟩ := hs
      have e1 := ra.get p _ f1
      cases t with
      | tmp p =>
        have e2 := ra.get p _ ht
        simp [results, h, e0, e1, g1, asAddr, e2]
      | cell p ty =>
        obtain ⟨ad, f2, g2⟩ := ht
        have e2 := ra.get p _ f2
        simp [results, h, e0, e1, g1, e2, g2, asAddr]
  | cell p ty =>
    obtain ⟨ad, f0, g0⟩ := hr
    have e0 := ra.get p _ f0
    cases s with
    | tmp p =>
      have e1 := ra.get p _ hs
      cases t with
      | tmp p =>
        have e2 := ra.get p _ ht
        simp [results, h, e0, g0, asAddr, e1, e2]
      | cell p ty =>
        obtain ⟨ad, f2, g2⟩ := ht
        have e2 := ra.get p _ f2
        simp [results, h, e0, g0, e1, e2, g2, asAddr]
    | cell p ty =>
      obtain ⟨ad, f1, g1⟩ := hs
      have e1 := ra.get p _ f1
      cases t with
      | tmp p =>
        have e2 := ra.get p _ ht
        simp [results, h, e0, g0, e1, g1, asAddr, e2]
      | cell p ty =>
        obtain ⟨ad, f2, g2⟩ := ht
        have e2 := ra.get p _ f2
        simp [results, h, e0, g0, e1, g1, e2, g2, asAddr]
omit [Dfs] in
theorem rvc {H : Heap} {p t g m i ty : Nat} {cs : List Value} (hx : env.get p = some (.pointer (some ⟨g, 0, none⟩))) (ht : aggSize P t = some m) (h : Hp w H) (hi : H[i]? = some (some g, Cl cs ty)) (hl : cs.length = m) : Rv P env w (.cell p t) (.agg cs.toArray) :=
  ⟨_, hx, run_loadVar_agg ht hl (range_all h hi)⟩
omit [Dfs] in
theorem rvp {H : Heap} {p t g k i ty : Nat} {cs : List Value} {v : Value} (hx : env.get p = some (.pointer (some ⟨g, k, none⟩))) (ht : plainB P t = true) (h : Hp w H) (hi : H[i]? = some (some g, Cl cs ty)) (hv : cs[k]? = some v) : Rv P env w (.cell p t) v :=
  ⟨_, hx, run_loadVar_plain ht (cell_of h hi hv)⟩
end
section
variable [Dfs] {P : Program} {n : Nat} {env : Env} {S : World → Prop} {o : Oper}
/-- string(bytes), by the bytes. -/
theorem y_cvb {src dst e g b l c : Nat} {x : Operand} {r : List UInt8} (ho : o.op = .convert src dst x) (hx : env.ev x = some (.slice (some ⟨g, b, none⟩) l c)) (hs : P.underlying src = some (.slice e)) (he : P.underlying e = some (.int .u8)) (hd : P.underlying dst = some .string)
    (hl : r.length = l) (hc : ∀ w, S w → w.rangeAt g b (r.map bv)) : Yld P n env S o (sv r) := by
  have h := y_cvbs (P := P) (n := n) (S := S) (xs := r.map fun b => (b.toNat : Int)) ho hx hs he hd (by simpa using hl) (fun w hS => by
    have := hc w hS
    have e : (r.map fun b => (b.toNat : Int)).map (Value.int .u8) = r.map bv := by simp [bv]
    rw [e]; exact this)
  have e2 : (r.map fun b => (b.toNat : Int)).map (fun q => UInt8.ofNat q.toNat) = r := by
    rw [List.map_map]
    conv => rhs; rw [← List.map_id r]
    apply List.map_congr_left
    intro b _
    simp
  rw [e2] at h
  exact h
theorem y_max {x y : Operand} {t u : Nat} {k : IntKind} {p q : Int} (ho : o.op = .call { callee := .builtin .max, args := #[x, y], argTypes := #[t, u] }) (hx : env.ev x = some (.int k p)) (hy : env.ev y = some (.int k q)) : Yld P n env S o (.int k (max p q)) := fun a r w _ => by
  refine run_builtin2 ho (r.eval hx) (r.eval hy) fun c => ?_
  have e : (if q > p then q else p) = max p q := by simp only [Int.max_def]; split <;> split <;> omega
  simp [builtin, Builtin.max_, Builtin.max2, ← e]
end
end Go.Proofs.YtngofknckkiboaaGreatDoor

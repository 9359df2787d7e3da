/- Rules for single operations, over any program: what each yields (Yld) or does (Act1). -/
import Derived.Handy
import Derived.WalkSpells
import Derived.WalkLawsBesides
import Derived.OrdersHeld
import Derived.Laws.CopyRow
import Derived.Deep.MidRow
import Derived.LoopN
import Derived.Lib.BufferWrite
import Derived.LoopNIn
import Derived.TacticsIn
import Derived.RangeFuncKeeps
import Derived.RangeFuncCalls
section
namespace Go.Proofs.YtdckemiebnfjcaaGreatDoor
open Go.RowKit
theorem beq_ne {d k : Nat} (e : ¬ d = k) : Nat.beq d k = false := by
  rcases h : Nat.beq d k with _ | _
  · rfl
  · exact absurd (Nat.eq_of_beq_eq_true h) e
class Dfs where
  ds : List Deferred
  ro : Option Nat
instance (priority := 100) dfs0 : Dfs := ⟨[], none⟩
def Fw (ro : Option Nat) : Fence := { Fence.wide with round := ro }
abbrev Env := List (Nat × Value)
def Env.get : Env → Nat → Option Value
  | [], _ => none
  | (j, v) :: r, k => bif Nat.beq j k then some v else Env.get r k
def Env.ev (e : Env) : Operand → Option Value
  | .tmp t => e.get t
  | .const v => some v
  | .global g => some (.pointer (some ⟨g, 0, none⟩))
  | .func f => some (.func (.func f) #[] #[])
def Env.evs (e : Env) : List Operand → Option (List Value)
  | [] => some []
  | x :: r => match e.ev x, Env.evs e r with
    | some v, some vs => some (v :: vs)
    | _, _ => none
section
variable [Dfs]
structure Rep (n : Nat) (env : Env) (a : Act) : Prop where
  size : a.tmps.size = n
  defers : a.defers = Dfs.ds
  get : ∀ k v, env.get k = some v → a.tmps[k]? = some v
theorem Rep.eval {n : Nat} {env : Env} {a : Act} (h : Rep n env a) {x : Operand} {v : Value} (hx : env.ev x = some v) : a.eval x = v := by
  cases x with
  | tmp t =>
    have := h.get t v hx
    simp [Act.eval, this]
  | const u => simpa [Env.ev, Act.eval] using hx
  | global g => simpa [Env.ev, Act.eval] using hx
  | func f => simpa [Env.ev, Act.eval] using hx
theorem Rep.evals {n : Nat} {env : Env} {a : Act} (h : Rep n env a) : ∀ {xs : List Operand} {vs : List Value}, env.evs xs = some vs → xs.map a.eval = vs
  | [], vs, hx => by simpa [Env.evs] using hx
  | x :: r, vs, hx => by
    simp only [Env.evs] at hx
    split at hx
    · rename_i v us h1 h2
      simp only [Option.some.injEq] at hx
      rw [← hx, List.map_cons, h.eval h1, h.evals h2]
    · cases hx
theorem Rep.put {n d : Nat} {env : Env} {a : Act} (h : Rep n env a) (hd : Nat.blt d n = true) (v : Value) : Rep n ((d, v) :: env) (a.put (some d) v) := by
  have hd' : d < n := by simpa [Nat.blt_eq] using hd
  refine ⟨by simp [Act.put, h.size], by simp [Act.put, h.defers], fun k u hk => ?_⟩
  unfold Env.get at hk
  by_cases e : d = k
  · subst e
    simp at hk
    subst hk
    simp [Act.put, h.size, hd']
  · have hb : Nat.beq d k = false := beq_ne e
    rw [hb] at hk
    simp only [cond_false] at hk
    simp [Act.put, Array.getElem?_setIfInBounds_ne e, h.get k u hk]
def Env.Le : Env → Env → Prop
  | [], _ => True
  | (k, v) :: r, e => e.get k = some v ∧ Env.Le r e
omit [Dfs] in
theorem Env.Le.get {e : Env} : ∀ {s : Env}, Env.Le s e → ∀ k v, s.get k = some v → e.get k = some v
  | [], _, k, v, hk => by simp [Env.get] at hk
  | (j, u) :: r, h, k, v, hk => by
    unfold Env.get at hk
    by_cases ejk : j = k
    · subst ejk
      simp at hk
      subst hk
      exact h.1
    · have hb : Nat.beq j k = false := beq_ne ejk
      rw [hb] at hk
      exact Env.Le.get h.2 k v hk
theorem Rep.weak {n : Nat} {env env' : Env} {a : Act} (h : Rep n env a) (hl : Env.Le env' env) : Rep n env' a :=
  ⟨h.size, h.defers, fun k v hk => h.get k v (hl.get k v hk)⟩
abbrev EQ := Exit → Env → World → Prop
def Lf (n : Nat) (Q : EQ) : Exit → Act → World → Prop := fun e a w => ∃ env, Rep n env a ∧ Q e env w
def Wp (P : Program) (n : Nat) (c : Code) (Q : EQ) (env : Env) (w : World) : Prop := ∀ a, Rep n env a → c.wpIn (Fw Dfs.ro) 0 P (Lf n Q) a w
def ndB (o : Oper) : Bool := match o.op with
  | .defer _ => false
  | _ => true
omit [Dfs] in
theorem ndB_spec {o : Oper} (h : ndB o = true) : ∀ c, o.op ≠ .defer c := fun c hc => by simp [ndB, hc] at h
omit [Dfs] in
theorem Oper.semFw {o : Oper} (ro : Option Nat) (h : ndB o = true) (ρ : Operand → Value) : o.semAt (Fw ro).round ρ = execOp ρ o := Oper.semAt_eq _ _ _ (ndB_spec h)
omit [Dfs] in
theorem upon_in {o : Oper} {ro : Option Nat} {P : Program} {a : Act} {K : Act → World → Prop} {Q : Exit → Act → World → Prop} {r : Result Next} (h : o.upon P a K Q r) : o.uponIn (Fw ro) 0 P a K Q r := by
  cases r with
  | ok x w' =>
    cases x <;> simp only [Oper.upon, Oper.uponIn] at h ⊢ <;>
      first
        | exact h
        | (refine ⟨fun h => by simp [Fw, Fence.wide] at h, ?_⟩; exact (callsIn_wide (n := 0 - 1)).2 h)
        | (refine ⟨fun h => by simp [Fw, Fence.wide] at h, fun c cs _ => ?_⟩; obtain ⟨v, w', r, s⟩ := h c cs; exact ⟨v, w', r, stepsIn_wide.2 s⟩)
  | halt x w' => cases x <;> simp only [Oper.upon, Oper.uponIn] at h ⊢ <;> exact h
omit [Dfs] in
theorem wpIn_op {o : Oper} {ro : Option Nat} {P : Program} {a : Act} {w : World} {K : Act → World → Prop} {Q : Exit → Act → World → Prop} (hnd : ndB o = true) (h : o.wp P a w K Q) : o.wpIn (Fw ro) 0 P a w K Q := by
  refine ⟨fun _ _ => trivial, ?_⟩
  rw [Oper.semFw ro hnd]
  exact upon_in h
omit [Dfs] in
theorem wpOps_in {ro : Option Nat} {P : Program} {ops : Array Oper} {Q : Exit → Act → World → Prop} (hl : ¬ LetsOut Q) (hnd : ops.toList.all ndB = true) : ∀ (l : List Nat) (a : Act) (w : World), wpOps P ops Q l a w → wpOpsIn (Fw ro) 0 P ops Q l a w
  | [], _, _, h => h
  | i :: l, a, w, h => by
    simp only [wpOps] at h
    simp only [wpOpsIn]
    cases ho : ops[i]? with
    | none => simp only [ho] at h ⊢; exact wpOps_in hl hnd l a w h
    | some o =>
      simp only [ho] at h ⊢
      have hn : ndB o = true := List.all_eq_true.1 hnd o (by
        obtain ⟨h1, h2⟩ := Array.getElem?_eq_some_iff.1 ho
        rw [← h2]; exact Array.getElem_mem_toList h1)
      split
      · rename_i hw
        rw [if_pos hw] at h
        rcases h with h | h
        · exact wpIn_op hn (Oper.wp_mono (fun a w => wpOps_in hl hnd l a w) h)
        · exact absurd h.2 hl
      · rename_i hw
        rw [if_neg hw] at h
        exact ⟨fun _ _ => trivial, wpOps_in hl hnd l _ w h⟩
omit [Dfs] in
theorem wpIn_draw {ro : Option Nat} {id : Nat} {P : Program} {ops : Array Oper} {Q : Exit → Act → World → Prop} {a : Act} {w : World} (hm : P.follows .mixedOrders = true) (hl : ¬ LetsOut Q) (hnd : ops.toList.all ndB = true)
    (h : wpAny P .any ops Q ops.size (Array.replicate ops.size false) a w.drew) : (Code.region id ops true).wpIn (Fw ro) 0 P Q a w :=
  wpIn_region_draw fun t => wpOps_in hl hnd _ a _ (by
    simp only [Region.schedule, hm, Bool.true_or, if_true]
    exact wpAny_sound ops.size t _ a _ h)
omit [Dfs] in
theorem letsOutN {K : Act → World → Prop} : ¬ LetsOut (fun e a w => match e with | .normal => K a w | _ => False) := fun ⟨_, _, h⟩ => h
def Ls (P : Program) (n : Nat) (ops : Array Oper) (Q : EQ) (l : List Oper) (env : Env) (w : World) : Prop := l.all ndB = true → ∀ a, Rep n env a → wpListIn (Fw Dfs.ro) 0 P ops (Lf n Q) l a w
def Th (K : Env → World → Prop) (Q : EQ) : EQ
  | .normal, env, w => K env w
  | e, env, w => Q e env w
def Ib (id : Nat) (Q : EQ) : EQ
  | .exit i, env, w => bif Nat.beq i id then Q .normal env w else Q (.exit i) env w
  | e, env, w => Q e env w
section
variable {P : Program} {n : Nat} {Q : EQ} {env : Env} {w : World} {c x y : Code}
theorem Wp_weak (env' : Env) (hl : Env.Le env' env) (h : Wp P n c Q env' w) : Wp P n c Q env w := fun a r => h a (r.weak hl)
theorem Wp_skip (h : Q .normal env w) : Wp P n .skip Q env w := fun _ r => wpIn_skip ⟨env, r, h⟩
theorem Wp_exit {id : Nat} (h : Q (.exit id) env w) : Wp P n (.exit id) Q env w := fun _ r => wpIn_exit ⟨env, r, h⟩
theorem wR (h : Q .ret env w) : Wp P n .ret Q env w := fun _ r => wpIn_ret ⟨env, r, h⟩
theorem Wp_seq (h : ∀ K : Env → World → Prop, (∀ e v, Wp P n y Q e v → K e v) → Wp P n x (Th K Q) env w) : Wp P n (.seq x y) Q env w := fun a r =>
  wpIn_seq (Code.wpIn_mono (fun e a' w' hq => by
    obtain ⟨env', r', q⟩ := hq
    cases e with
    | normal => exact q a' r'
    | _ => exact ⟨env', r', q⟩) (h (Wp P n y Q) (fun _ _ h => h) a r))
theorem Wp_cond_t {b : Operand} (hb : env.ev b = some (.bool true)) (h : Wp P n x Q env w) : Wp P n (.cond b x y) Q env w := fun a r =>
  wpIn_cond_true (r.eval hb) (h a r)
theorem Wp_cond_f {b : Operand} (hb : env.ev b = some (.bool false)) (h : Wp P n y Q env w) : Wp P n (.cond b x y) Q env w := fun a r =>
  wpIn_cond_false (r.eval hb) (h a r)
theorem Wp_cond {b : Operand} {t : Bool} (hb : env.ev b = some (.bool t)) (h1 : t = true → Wp P n x Q env w) (h2 : t = false → Wp P n y Q env w) : Wp P n (.cond b x y) Q env w := by
  cases t
  · exact Wp_cond_f hb (h2 rfl)
  · exact Wp_cond_t hb (h1 rfl)
theorem Wp_block {id : Nat} (h : Wp P n c (Ib id Q) env w) : Wp P n (.block id c) Q env w := fun a r =>
  wpIn_block (Code.wpIn_mono (fun e a' w' hq => by
    obtain ⟨env', r', q⟩ := hq
    cases e with
    | exit i =>
      unfold Exit.inBlock
      by_cases hi : i = id
      · subst hi
        simp only [Ib] at q ⊢
        simp at q ⊢
        exact ⟨env', r', q⟩
      · have hb : Nat.beq i id = false := beq_ne hi
        simp only [Ib, hb, cond_false] at q
        simp only [hi, if_false]
        exact ⟨env', r', q⟩
    | _ => exact ⟨env', r', q⟩) (h a r))
theorem Wp_mono {Q' : EQ} (h : Wp P n c Q env w) (hq : ∀ e v u, Q e v u → Q' e v u) : Wp P n c Q' env w := fun a r =>
  Code.wpIn_mono (fun _ _ _ ⟨env', r', q⟩ => ⟨env', r', hq _ _ _ q⟩) (h a r)
theorem Wp_loop (I : Nat → Env → World → Prop) (m0 : Nat) (h0 : I m0 env w)
    (h : ∀ m env w, I m env w → Wp P n c (Th (fun env' w' => ∃ m', m' < m ∧ I m' env' w') Q) env w) : Wp P n (.loop c) Q env w := by
  intro a r
  have key : ∀ N m env w a, m < N → I m env w → Rep n env a → Code.roundsIn (Fw Dfs.ro) 0 P c (Lf n Q) N a w := by
    intro N
    induction N with
    | zero => intro m env w a hm; omega
    | succ N ih =>
      intro m env w a hm hi ra
      rw [roundsIn_succ]
      refine Code.wpIn_mono (fun e a' w' hq => ?_) (h m env w hi a ra)
      obtain ⟨env', r', q⟩ := hq
      cases e with
      | normal =>
        obtain ⟨m', hlt, hi'⟩ := q
        exact ih m' env' w' a' (by omega) hi' r'
      | _ => exact ⟨env', r', q⟩
  exact wpIn_loop_rounds (m0 + 1) (key (m0 + 1) m0 env w a (by omega) h0 r)
theorem Wp_region {id : Nat} {l : List Oper} (h : Ls P n l.toArray Q l env w) (hnd : l.all ndB = true := by rfl) : Wp P n (.region id l.toArray false) Q env w := fun a r => wpIn_region_lit (h hnd a r)
end
def Wtd (n : Nat) (env : Env) (ops : Array Oper) (o : Oper) (b : Bool) : Prop := ∀ a, Rep n env a → Region.wanted o (yielded ops a.tmps) = b
theorem wtd0 {n : Nat} {env : Env} {ops : Array Oper} {o : Oper} (hg : o.guard = none) : Wtd n env ops o true := fun _ _ => by simp [Region.wanted, hg]
theorem wtd1 {n : Nat} {env : Env} {ops : Array Oper} {o : Oper} {j s : Nat} {b c : Bool} (hg : o.guard = some (j, b)) (hj : (ops[j]?).bind (·.dst) = some s) (hs : env.get s = some (.bool c)) :
    Wtd n env ops o (c == b) := fun a r => by
  have := r.get s _ hs
  simp [Region.wanted, hg, yielded, hj, this]
theorem wtdT {n : Nat} {env : Env} {ops : Array Oper} {o : Oper} {j s : Nat} {b : Bool} (hg : o.guard = some (j, b)) (hj : (ops[j]?).bind (·.dst) = some s) (hs : env.get s = some (.bool b)) :
    Wtd n env ops o true := fun a r => by
  have := wtd1 (n := n) (ops := ops) hg hj hs a r
  simpa using this
theorem wtdF {n : Nat} {env : Env} {ops : Array Oper} {o : Oper} {j s : Nat} {b : Bool} (hg : o.guard = some (j, b)) (hj : (ops[j]?).bind (·.dst) = some s) (hs : env.get s = some (.bool (!b))) :
    Wtd n env ops o false := fun a r => by
  have := wtd1 (n := n) (ops := ops) hg hj hs a r
  cases b <;> simpa using this
def Yld (P : Program) (n : Nat) (env : Env) (S : World → Prop) (o : Oper) (v : Value) : Prop := ∀ a, Rep n env a → ∀ w, S w → (execOp a.eval o).run P w = .ok (.value v) w
def Act1 (P : Program) (n : Nat) (env : Env) (w : World) (o : Oper) (K : Env → World → Prop) : Prop := ∀ a, Rep n env a → o.wp P a w (fun a' w' => ∃ env', Rep n env' a' ∧ K env' w') (fun _ _ _ => False)
def Env.dst (env : Env) (d : Option Nat) (v : Value) : Env := match d with
  | some d => (d, v) :: env
  | none => env
theorem Rep.dst {n : Nat} {env : Env} {a : Act} (h : Rep n env a) {d : Option Nat} (hd : (d.all (Nat.blt · n)) = true) (v : Value) : Rep n (env.dst d v) (a.put d v) := by
  cases d with
  | none => exact h
  | some d => exact h.put (by simpa using hd) v
omit [Dfs] in
theorem wp_noFalse {P : Program} {o : Oper} {a : Act} {w : World} {K : Act → World → Prop} {Q : Exit → Act → World → Prop} (h : o.wp P a w K (fun _ _ _ => False)) : o.wp P a w K Q := by
  unfold Oper.wp at *
  generalize (execOp a.eval o).run P w = r at *
  cases r with
  | ok x w' =>
    cases x <;> simp only [Oper.upon] at h ⊢ <;>
      first
        | exact h
        | exact Calls.mono h (fun e w'' he => by
            cases e with
            | returned v => exact he
            | panicked c => exact he.elim
            | outgrown => obtain ⟨_, _, hf⟩ := he; exact hf.elim)
  | halt x w' => cases x <;> simp only [Oper.upon] at h ⊢ <;> exact h.elim
section
variable {P : Program} {n : Nat} {Q : EQ} {env : Env} {w : World} {ops : Array Oper} {o : Oper} {rest : List Oper}
theorem Ls_nil (h : Q .normal env w) : Ls P n ops Q [] env w := fun _ _ r => wpListIn_nil ⟨env, r, h⟩
omit [Dfs] in
theorem nd_hd {o : Oper} {l : List Oper} (h : (o :: l).all ndB = true) : ndB o = true := by simp only [List.all_cons, Bool.and_eq_true] at h; exact h.1
omit [Dfs] in
theorem nd_tl {o : Oper} {l : List Oper} (h : (o :: l).all ndB = true) : l.all ndB = true := by simp only [List.all_cons, Bool.and_eq_true] at h; exact h.2
theorem Ls_y {v : Value} {d : Nat} (hw : Wtd n env ops o true) (hd : o.dst = some d) (hn : Nat.blt d n = true) (hy : Yld P n env (· = w) o v) (h : Ls P n ops Q rest ((d, v) :: env) w) : Ls P n ops Q (o :: rest) env w := fun hnd a r =>
  wpListIn_step fun K hK => by
    rw [if_pos (hw a r)]
    refine wpIn_op (nd_hd hnd) ?_
    unfold Oper.wp
    rw [hy a r w rfl]
    have r' := r.put hn v
    rw [← hd] at r'
    exact hK _ _ (h (nd_tl hnd) _ r')
theorem Ls_s {d : Nat} (hw : Wtd n env ops o false) (hd : o.dst = some d) (hn : Nat.blt d n = true) (h : Ls P n ops Q rest ((d, undef) :: env) w) : Ls P n ops Q (o :: rest) env w := fun hnd a r =>
  wpListIn_step fun K hK => by
    rw [if_neg (by rw [hw a r]; decide)]
    have r' := r.put hn undef
    rw [← hd] at r'
    exact ⟨fun _ _ => trivial, hK _ _ (h (nd_tl hnd) _ r')⟩
theorem Ls_a (hw : Wtd n env ops o true) (h : Act1 P n env w o (fun env' w' => Ls P n ops Q rest env' w')) : Ls P n ops Q (o :: rest) env w := fun hnd a r =>
  wpListIn_step fun K hK => by
    rw [if_pos (hw a r)]
    exact wpIn_op (nd_hd hnd) (wp_noFalse (Oper.wp_mono (fun a' w' ⟨env', r', hl⟩ => hK _ _ (hl (nd_tl hnd) a' r')) (h a r)))
end
def planB (md : Region.Mode) (ops : Array Oper) : List (Bool × Nat) → Array Bool → Bool
  | [], listed => (Region.ready md ops listed).isEmpty
  | (true, i) :: r, listed => (Region.ready md ops listed).contains i && Region.free md ops listed i && planB md ops r (listed.setIfInBounds i true)
  | (false, i) :: r, listed => Region.ready md ops listed == [i] && planB md ops r (listed.setIfInBounds i true)
def Pl (P : Program) (n : Nat) (ops : Array Oper) (S : World → Prop) (Q : EQ) : List (Bool × Nat) → Env → World → Prop
  | [], env, w => Q .normal env w
  | (true, i) :: r, env, w => ∃ o, ops[i]? = some o ∧ (o.dst.all (Nat.blt · n)) = true ∧
      ((Wtd n env ops o true ∧ ∃ v, Yld P n env S o v ∧ Pl P n ops S Q r (env.dst o.dst v) w) ∨ (Wtd n env ops o false ∧ Pl P n ops S Q r (env.dst o.dst undef) w))
  | (false, i) :: r, env, w => ∃ o, ops[i]? = some o ∧ (o.dst.all (Nat.blt · n)) = true ∧
      ((Wtd n env ops o true ∧ Act1 P n env w o (fun env' w' => S w' ∧ Pl P n ops S Q r env' w')) ∨ (Wtd n env ops o false ∧ Pl P n ops S Q r (env.dst o.dst undef) w))
section
variable {P : Program} {n : Nat} {Q : EQ} {env : Env} {w : World} {ops : Array Oper} {S : World → Prop}
theorem Pl_sound (hs : Region.noSelect ops = true) : ∀ (l : List (Bool × Nat)) (listed : Array Bool) (env : Env) (w : World) (a : Act), planB .any ops l listed = true → Rep n env a → S w →
    Pl P n ops S Q l env w → wpAnyH P .any ops (fun e a w => match e with | .normal => Lf n Q .normal a w | _ => False) S l.length listed a w
  | [], listed, env, w, a, hB, r, hS, h => wpAnyH_done (by simpa [planB] using hB) ⟨env, r, h⟩ _
  | (true, i) :: l, listed, env, w, a, hB, r, hS, h => by
    simp only [planB, Bool.and_eq_true] at hB
    obtain ⟨⟨h1, h2⟩, h3⟩ := hB
    obtain ⟨o, ho, hd, h⟩ := h
    rcases h with ⟨hw, v, hy, h⟩ | ⟨hw, h⟩
    · exact wpAnyH_take (v := v) ho hs h2 h1 (fun _ _ _ hf => hf) (.inl ⟨hw a r, fun w' hS' => hy a r w' hS'⟩) hS (Pl_sound hs l _ _ w _ h3 (r.dst hd v) hS h)
    · exact wpAnyH_take (v := undef) ho hs h2 h1 (fun _ _ _ hf => hf) (.inr ⟨hw a r, rfl⟩) hS (Pl_sound hs l _ _ w _ h3 (r.dst hd undef) hS h)
  | (false, i) :: l, listed, env, w, a, hB, r, hS, h => by
    simp only [planB, Bool.and_eq_true, beq_iff_eq] at hB
    obtain ⟨h1, h3⟩ := hB
    obtain ⟨o, ho, hd, h⟩ := h
    refine wpAnyH_all h1 (by simp) fun j hj => ?_
    obtain rfl : j = i := by simpa using hj
    unfold wpOp
    simp only [ho]
    rcases h with ⟨hw, h⟩ | ⟨hw, h⟩
    · rw [if_pos (hw a r)]
      exact .inl (wp_noFalse (Oper.wp_mono (fun a' w' ⟨env', r', hS', hl⟩ => ⟨hS', Pl_sound hs l _ env' w' a' h3 r' hS' hl⟩) (h a r)))
    · rw [if_neg (by rw [hw a r]; decide)]
      exact ⟨hS, Pl_sound hs l _ _ w _ h3 (r.dst hd undef) hS h⟩
def Qs (Q : EQ) : EQ := fun e env w => ∃ e' : Env, (∀ k v, e'.get k = some v → env.get k = some v) ∧ Q e e' w
theorem Wp_plan {id : Nat} {l : List Oper} (S : World → Prop) (pl : List (Bool × Nat)) (hm : P.follows .mixedOrders = true) (hs : Region.noSelect l.toArray = true)
    (hB : planB .any l.toArray pl (Array.replicate l.toArray.size false) = true) (hlen : pl.length = l.toArray.size) (hS : S w.drew) (h : Pl P n l.toArray S (Qs Q) pl env w.drew) (hnd : l.all ndB = true := by rfl) : Wp P n (.region id l.toArray true) Q env w := fun a r => by
  have h1 := Pl_sound (P := P) (n := n) (Q := Qs Q) (S := S) hs pl _ env w.drew a hB r hS h
  rw [hlen] at h1
  have h2 : (Code.region id l.toArray true).wpIn (Fw Dfs.ro) 0 P (fun e a w => match e with | .normal => Lf n (Qs Q) .normal a w | _ => False) a w := wpIn_draw hm letsOutN (by simpa using hnd) (wpAny_of_held _ _ _ _ h1)
  refine Code.wpIn_mono (fun e a' w' hq => ?_) h2
  cases e <;> first | exact hq.elim | (obtain ⟨env', r', e2, hsub, q⟩ := hq; exact ⟨e2, ⟨r'.size, r'.defers, fun k v hk => r'.get k v (hsub k v hk)⟩, q⟩)
omit [Dfs] in
theorem sub_cons {e env : Env} (h : ∀ k v, e.get k = some v → env.get k = some v) (d : Nat) (u : Value) : ∀ k v, Env.get ((d, u) :: e) k = some v → Env.get ((d, u) :: env) k = some v := fun k v hk => by
  unfold Env.get at hk ⊢
  cases hb : Nat.beq d k with
  | true => rw [hb] at hk; exact hk
  | false => rw [hb] at hk; exact h k v hk
omit [Dfs] in
theorem sub_dst {e env : Env} (h : ∀ k v, e.get k = some v → env.get k = some v) (d : Option Nat) (u : Value) : ∀ k v, (e.dst d u).get k = some v → (env.dst d u).get k = some v := by
  cases d with
  | none => exact h
  | some d => exact sub_cons h d u
theorem Rep.sub {a : Act} {e : Env} (r : Rep n env a) (h : ∀ k v, e.get k = some v → env.get k = some v) : Rep n e a := ⟨r.size, r.defers, fun k v hk => r.get k v (h k v hk)⟩
theorem Pl_mono : ∀ (l : List (Bool × Nat)) (e env : Env) (w : World), (∀ k v, e.get k = some v → env.get k = some v) → Pl P n ops S (Qs Q) l e w → Pl P n ops S (Qs Q) l env w
  | [], _, _, _, h, hp => by
    obtain ⟨e2, h2, q⟩ := hp
    exact ⟨e2, fun k v hk => h k v (h2 k v hk), q⟩
  | (true, i) :: l, e, env, w, h, hp => by
    obtain ⟨o, ho, hd, hp⟩ := hp
    refine ⟨o, ho, hd, ?_⟩
    rcases hp with ⟨hw, v, hy, hp⟩ | ⟨hw, hp⟩
    · exact .inl ⟨fun a r => hw a (r.sub h), v, fun a r => hy a (r.sub h), Pl_mono l _ _ w (sub_dst h _ _) hp⟩
    · exact .inr ⟨fun a r => hw a (r.sub h), Pl_mono l _ _ w (sub_dst h _ _) hp⟩
  | (false, i) :: l, e, env, w, h, hp => by
    obtain ⟨o, ho, hd, hp⟩ := hp
    refine ⟨o, ho, hd, ?_⟩
    rcases hp with ⟨hw, hp⟩ | ⟨hw, hp⟩
    · exact .inl ⟨fun a r => hw a (r.sub h), fun a r => hp a (r.sub h)⟩
    · exact .inr ⟨fun a r => hw a (r.sub h), Pl_mono l _ _ w (sub_dst h _ _) hp⟩
theorem Pl_nil (h : Q .normal env w) : Pl P n ops S (Qs Q) [] env w := ⟨env, fun _ _ h => h, h⟩
omit [Dfs] in
theorem Env.dst_some {env : Env} {o : Oper} {d : Nat} (hd : o.dst = some d) (v : Value) : env.dst o.dst v = (d, v) :: env := by rw [hd]; rfl
omit [Dfs] in
theorem dst_all {o : Oper} {d n : Nat} (hd : o.dst = some d) (hn : Nat.blt d n = true) : (o.dst.all (Nat.blt · n)) = true := by rw [hd]; simpa using hn
theorem Pl_y {i d : Nat} {o : Oper} {r : List (Bool × Nat)} {v : Value} (ho : ops[i]? = some o) (hw : Wtd n env ops o true) (hd : o.dst = some d) (hn : Nat.blt d n = true) (hy : Yld P n env S o v) (h : Pl P n ops S Q r ((d, v) :: env) w) :
    Pl P n ops S Q ((true, i) :: r) env w := ⟨o, ho, dst_all hd hn, .inl ⟨hw, v, hy, by rw [Env.dst_some hd]; exact h⟩⟩
theorem Pl_s {b : Bool} {i d : Nat} {o : Oper} {r : List (Bool × Nat)} (ho : ops[i]? = some o) (hw : Wtd n env ops o false) (hd : o.dst = some d) (hn : Nat.blt d n = true) (h : Pl P n ops S Q r ((d, undef) :: env) w) :
    Pl P n ops S Q ((b, i) :: r) env w := by
  cases b
  · exact ⟨o, ho, dst_all hd hn, .inr ⟨hw, by rw [Env.dst_some hd]; exact h⟩⟩
  · exact ⟨o, ho, dst_all hd hn, .inr ⟨hw, by rw [Env.dst_some hd]; exact h⟩⟩
theorem Pl_a {i : Nat} {o : Oper} {r : List (Bool × Nat)} (ho : ops[i]? = some o) (hw : Wtd n env ops o true) (hd : (o.dst.all (Nat.blt · n)) = true) (h : Act1 P n env w o (fun env' w' => S w' ∧ Pl P n ops S Q r env' w')) :
    Pl P n ops S Q ((false, i) :: r) env w := ⟨o, ho, hd, .inl ⟨hw, h⟩⟩
end
def Res (P : Program) (n : Nat) (fn : Func) (env : Env) (w : World) (v : Value) : Prop := ∀ a, Rep n env a → (results fn a.tmps).run P w = .ok v w
def Fq (P : Program) (n : Nat) (fn : Func) (R : Ending → World → Prop) : EQ
  | .normal, env, w | .ret, env, w => ∃ v, Res P n fn env w v ∧ R (.returned v) w
  | _, _, _ => False
def argEnv : Nat → List Value → Env
  | _, [] => []
  | i, v :: r => (i, v) :: argEnv (i + 1) r
omit [Dfs] in
theorem argEnv_get : ∀ (vs : List Value) (i k : Nat) (v : Value), (argEnv i vs).get k = some v → i ≤ k ∧ vs[k - i]? = some v
  | [], i, k, v, h => by simp [argEnv, Env.get] at h
  | u :: r, i, k, v, h => by
    unfold argEnv Env.get at h
    by_cases e : i = k
    · subst e
      simp at h
      subst h
      simp
    · have hb : Nat.beq i k = false := beq_ne e
      rw [hb] at h
      obtain ⟨h1, h2⟩ := argEnv_get r (i + 1) k v h
      refine ⟨by omega, ?_⟩
      rw [show k - i = (k - (i + 1)) + 1 by omega]
      simpa using h2
end
theorem Calls_of {P : Program} {f : FuncId} {fn : Func} {c : Code} {args : List Value} {w : World} {R : Ending → World → Prop} (n : Nat)
    (hf : P.funcs[f]? = some fn) (hb : fn.body = some c) (hn : fn.ntmps = n) (hle : Nat.ble args.length n = true) (h : Wp P n c (Fq P n fn R) (argEnv 0 args) w) : Calls P f args.toArray w R := by
  have h1 := h { tmps := args.toArray ++ Array.replicate (fn.ntmps - args.toArray.size) undef, defers := [] } ⟨?_, rfl, fun k v hk => ?_⟩
  · have h2 := (wpIn_wide (n := 0)).1 h1
    refine calls_of_wp hf hb (Code.wp_mono (fun e a' w' hq => ?_) h2)
    obtain ⟨env', r', q⟩ := hq
    cases e <;> simp only [Fq] at q <;> first | exact q.elim | skip
    all_goals
      obtain ⟨v, hv, hR⟩ := q
      exact ⟨r'.defers, v, hv a' r', hR⟩
  · have : args.length ≤ n := by simpa [Nat.ble_eq] using hle
    simp [hn]; omega
  · obtain ⟨_, h2⟩ := argEnv_get args 0 k v hk
    simp only [Nat.sub_zero] at h2
    have hlt : k < args.length := (List.getElem?_eq_some_iff.1 h2).1
    have h3 : args[k] = v := (List.getElem?_eq_some_iff.1 h2).2
    simp [Array.getElem?_append, hlt, h3]
section
variable [Dfs]
theorem Res1 {P : Program} {n : Nat} {fn : Func} {env : Env} {w : World} {t : Tmp} {v : Value} (h : fn.results = #[.tmp t]) (hv : env.get t = some v) : Res P n fn env w v := fun a r => by
  rw [results_tmp h]; have := r.get t v hv; simp [this]
theorem Res0 {P : Program} {n : Nat} {fn : Func} {env : Env} {w : World} (h : fn.results = #[]) : Res P n fn env w (.tuple #[]) := fun _ _ => results_none h _ _ _
theorem Res2 {P : Program} {n : Nat} {fn : Func} {env : Env} {w : World} {t u : Tmp} {v x : Value} (h : fn.results = #[.tmp t, .tmp u]) (hv : env.get t = some v) (hx : env.get u = some x) : Res P n fn env w (.tuple #[v, x]) := fun a r => by
  rw [results_tmp2 h]; have h1 := r.get t v hv; have h2 := r.get u x hx; simp [h1, h2]
theorem Res3 {P : Program} {n : Nat} {fn : Func} {env : Env} {w : World} {t u s : Tmp} {v x y : Value} (h : fn.results = #[.tmp t, .tmp u, .tmp s]) (hv : env.get t = some v) (hx : env.get u = some x) (hy : env.get s = some y) :
    Res P n fn env w (.tuple #[v, x, y]) := fun a r => by
  have h1 := r.get t v hv; have h2 := r.get u x hx; have h3 := r.get s y hy; simp [results, h, h1, h2, h3]
end
end Go.Proofs.YtdckemiebnfjcaaGreatDoor
end

section
namespace Go.Proofs.YtdckemiebnfjcaaGreatDoor
open Go.RowKit
abbrev sv (l : List UInt8) : Value := .string ⟨l.toArray⟩
abbrev Cl (cs : List Value) (t : TypeId) : Obj := .cells cs.toArray t (0, 0)
def fieldOff (P : Program) (s f : Nat) : Option Nat := match P.underlying s with
  | some (.struct fs) => match fs[f]? with
    | some fd => match P.info? fd.type with
      | some i => if i.size = 0 then none else some fd.offset
      | none => none
    | none => none
  | _ => none
def aggSize (P : Program) (t : Nat) : Option Nat := match P.underlying t with
  | some (.struct _) | some (.array _ _) => (P.info? t).map (·.size)
  | _ => none
def plainB (P : Program) (t : Nat) : Bool := match P.underlying t with
  | some (.struct _) | some (.array _ _) => false
  | some _ => match P.info? t with
    | some i => i.size == 1
    | none => false
  | none => false
def zeroCells (P : Program) (t : Nat) : Option (List Value) := (P.info? t).bind fun i => i.zero.map fun z => z.cells.toList
section
variable [Dfs] {P : Program} {n : Nat} {env : Env} {S : World → Prop} {o : Oper} {v : Value}
theorem y_move {x : Operand} (ho : o.op = .move x) (hx : env.ev x = some v) : Yld P n env S o v := fun a r w _ => by
  unfold execOp; simp only [ho, r.eval hx]; rfl
theorem y_assign {x : Operand} (ho : o.op = .assign x) (hx : env.ev x = some v) : Yld P n env S o v := fun a r w _ => by
  unfold execOp; simp only [ho, r.eval hx]; rfl
theorem y_pick_t {c x y : Operand} (ho : o.op = .pick c x y) (hc : env.ev c = some (.bool true)) (hx : env.ev x = some v) : Yld P n env S o v := fun a r w _ => by
  unfold execOp; simp [ho, r.eval hc, r.eval hx, asBool]
theorem y_pick_f {c x y : Operand} (ho : o.op = .pick c x y) (hc : env.ev c = some (.bool false)) (hx : env.ev y = some v) : Yld P n env S o v := fun a r w _ => by
  unfold execOp; simp [ho, r.eval hc, r.eval hx, asBool]
theorem y_ext {x : Operand} {i : Nat} {vs : Array Value} (ho : o.op = .extract x i) (hx : env.ev x = some (.tuple vs)) (hv : vs[i]? = some v) : Yld P n env S o v := fun a r w _ => by
  unfold execOp; simp [ho, r.eval hx, Instr.extract, hv]
theorem y_nil {x : Operand} {b : Addr} (ho : o.op = .nilCheck x) (hx : env.ev x = some (.pointer (some b))) : Yld P n env S o (.pointer (some b)) := fun a r w _ => by
  unfold execOp; simp only [ho, r.eval hx]; rfl
theorem y_fld {x : Operand} {s f g k off : Nat} (ho : o.op = .fieldAddr s x f) (hx : env.ev x = some (.pointer (some ⟨g, k, none⟩))) (hf : fieldOff P s f = some off) :
    Yld P n env S o (.pointer (some ⟨g, k + off, none⟩)) := fun a r w _ => by
  unfold fieldOff at hf
  split at hf <;> try (cases hf; done)
  rename_i fs hu
  split at hf <;> try (cases hf; done)
  rename_i fd hfd
  split at hf <;> try (cases hf; done)
  rename_i i hi
  split at hf
  · cases hf
  · rename_i hz
    injection hf with hf
    subst hf
    unfold execOp
    simp [ho, r.eval hx, Instr.fieldAt, run_underlying hu, hfd, Instr.sureAddr, fieldPlace, sizeOf, typeInfo, hi, hz, Addr.add_mid]
theorem y_not {x : Operand} {t : Nat} {b : Bool} (ho : o.op = .unOp .not t x) (hx : env.ev x = some (.bool b)) : Yld P n env S o (.bool !b) := fun a r w _ => by
  unfold execOp; simp [ho, r.eval hx, Op.unary]
theorem y_cmp {op : BinOp} {x y : Operand} {t u : Nat} {k : IntKind} {p q : Int} {b : Bool} (ho : o.op = .binOp op t x y u) (hx : env.ev x = some (.int k p)) (hy : env.ev y = some (.int k q))
    (hr : ∀ w : World, (Op.intCmp op p q).run P w = .ok (.bool b) w) (hop : op = .eql ∨ op = .neq ∨ op = .lss ∨ op = .leq ∨ op = .gtr ∨ op = .geq) : Yld P n env S o (.bool b) := fun a r w _ => by
  unfold execOp
  rcases hop with rfl | rfl | rfl | rfl | rfl | rfl <;> simp [ho, r.eval hx, r.eval hy, eqGuard, binOp, hr]
theorem y_eq {x y : Operand} {t u : Nat} {k : IntKind} {p q : Int} (ho : o.op = .binOp .eql t x y u) (hx : env.ev x = some (.int k p)) (hy : env.ev y = some (.int k q)) : Yld P n env S o (.bool (p == q)) :=
  y_cmp ho hx hy (fun _ => rfl) (by simp)
theorem y_eqT {x y : Operand} {t u : Nat} {k : IntKind} {p q : Int} (ho : o.op = .binOp .eql t x y u) (hx : env.ev x = some (.int k p)) (hy : env.ev y = some (.int k q)) (h : p = q) : Yld P n env S o (.bool true) :=
  y_cmp ho hx hy (fun w => by simp [Op.intCmp, h]) (by simp)
theorem y_eqF {x y : Operand} {t u : Nat} {k : IntKind} {p q : Int} (ho : o.op = .binOp .eql t x y u) (hx : env.ev x = some (.int k p)) (hy : env.ev y = some (.int k q)) (h : p ≠ q) : Yld P n env S o (.bool false) :=
  y_cmp ho hx hy (fun w => by simp [Op.intCmp, h]) (by simp)
theorem y_ne {x y : Operand} {t u : Nat} {k : IntKind} {p q : Int} (ho : o.op = .binOp .neq t x y u) (hx : env.ev x = some (.int k p)) (hy : env.ev y = some (.int k q)) : Yld P n env S o (.bool (p != q)) :=
  y_cmp ho hx hy (fun _ => rfl) (by simp)
theorem y_neT {x y : Operand} {t u : Nat} {k : IntKind} {p q : Int} (ho : o.op = .binOp .neq t x y u) (hx : env.ev x = some (.int k p)) (hy : env.ev y = some (.int k q)) (h : p ≠ q) : Yld P n env S o (.bool true) :=
  y_cmp ho hx hy (fun w => by simp [Op.intCmp, h]) (by simp)
theorem y_neF {x y : Operand} {t u : Nat} {k : IntKind} {p q : Int} (ho : o.op = .binOp .neq t x y u) (hx : env.ev x = some (.int k p)) (hy : env.ev y = some (.int k q)) (h : p = q) : Yld P n env S o (.bool false) :=
  y_cmp ho hx hy (fun w => by simp [Op.intCmp, h]) (by simp)
theorem y_lt {x y : Operand} {t u : Nat} {k : IntKind} {p q : Int} (ho : o.op = .binOp .lss t x y u) (hx : env.ev x = some (.int k p)) (hy : env.ev y = some (.int k q)) : Yld P n env S o (.bool (decide (p < q))) :=
  y_cmp ho hx hy (fun _ => rfl) (by simp)
theorem y_ltT {x y : Operand} {t u : Nat} {k : IntKind} {p q : Int} (ho : o.op = .binOp .lss t x y u) (hx : env.ev x = some (.int k p)) (hy : env.ev y = some (.int k q)) (h : p < q) : Yld P n env S o (.bool true) :=
  y_cmp ho hx hy (fun w => by simp [Op.intCmp, h]) (by simp)
theorem y_ltF {x y : Operand} {t u : Nat} {k : IntKind} {p q : Int} (ho : o.op = .binOp .lss t x y u) (hx : env.ev x = some (.int k p)) (hy : env.ev y = some (.int k q)) (h : q ≤ p) : Yld P n env S o (.bool false) :=
  y_cmp ho hx hy (fun w => by simp [Op.intCmp, h]) (by simp)
theorem y_le {x y : Operand} {t u : Nat} {k : IntKind} {p q : Int} (ho : o.op = .binOp .leq t x y u) (hx : env.ev x = some (.int k p)) (hy : env.ev y = some (.int k q)) : Yld P n env S o (.bool (decide (p ≤ q))) :=
  y_cmp ho hx hy (fun _ => rfl) (by simp)
theorem y_gt {x y : Operand} {t u : Nat} {k : IntKind} {p q : Int} (ho : o.op = .binOp .gtr t x y u) (hx : env.ev x = some (.int k p)) (hy : env.ev y = some (.int k q)) : Yld P n env S o (.bool (decide (q < p))) :=
  y_cmp ho hx hy (fun _ => rfl) (by simp)
theorem y_gtF {x y : Operand} {t u : Nat} {k : IntKind} {p q : Int} (ho : o.op = .binOp .gtr t x y u) (hx : env.ev x = some (.int k p)) (hy : env.ev y = some (.int k q)) (h : p ≤ q) : Yld P n env S o (.bool false) :=
  y_cmp ho hx hy (fun w => by simp [Op.intCmp, h]) (by simp)
theorem y_ge {x y : Operand} {t u : Nat} {k : IntKind} {p q : Int} (ho : o.op = .binOp .geq t x y u) (hx : env.ev x = some (.int k p)) (hy : env.ev y = some (.int k q)) : Yld P n env S o (.bool (decide (q ≤ p))) :=
  y_cmp ho hx hy (fun _ => rfl) (by simp)
theorem y_add {x y : Operand} {t u : Nat} {k : IntKind} {p q c : Int} (ho : o.op = .binOp .add t x y u) (hx : env.ev x = some (.int k p)) (hy : env.ev y = some (.int k q)) (hw : k.wrap (p + q) = c) : Yld P n env S o (.int k c) := fun a r w _ => by
  unfold execOp; simp [ho, r.eval hx, r.eval hy, eqGuard, binOp, Op.intArith, hw]
theorem y_sub {x y : Operand} {t u : Nat} {k : IntKind} {p q c : Int} (ho : o.op = .binOp .sub t x y u) (hx : env.ev x = some (.int k p)) (hy : env.ev y = some (.int k q)) (hw : k.wrap (p - q) = c) : Yld P n env S o (.int k c) := fun a r w _ => by
  unfold execOp; simp [ho, r.eval hx, r.eval hy, eqGuard, binOp, Op.intArith, hw]
theorem y_shl {x y : Operand} {t u : Nat} {k ky : IntKind} {p q c : Int} (ho : o.op = .binOp .shl t x y u) (hx : env.ev x = some (.int k p)) (hy : env.ev y = some (.int ky q)) (h0 : 0 ≤ q) (hw : k.wrap (p * 2 ^ (min q.toNat k.bits)) = c) : Yld P n env S o (.int k c) := fun a r w _ => by
  have h0' : ¬ q < 0 := by omega
  unfold execOp; simp [ho, r.eval hx, r.eval hy, eqGuard, binOp, Op.shift, hw, h0']
theorem y_shr {x y : Operand} {t u : Nat} {k ky : IntKind} {p q c : Int} (ho : o.op = .binOp .shr t x y u) (hx : env.ev x = some (.int k p)) (hy : env.ev y = some (.int ky q)) (h0 : 0 ≤ q) (hw : p.fdiv (2 ^ (min q.toNat k.bits)) = c) : Yld P n env S o (.int k c) := fun a r w _ => by
  have h0' : ¬ q < 0 := by omega
  unfold execOp; simp [ho, r.eval hx, r.eval hy, eqGuard, binOp, Op.shift, hw, h0']
theorem y_bits {op : BinOp} {x y : Operand} {t u : Nat} {k : IntKind} {p q c : Int} (ho : o.op = .binOp op t x y u) (hx : env.ev x = some (.int k p)) (hy : env.ev y = some (.int k q)) (hop : op = .and ∨ op = .or ∨ op = .xor ∨ op = .andNot) (hw : bits op k p q = c) : Yld P n env S o (.int k c) := fun a r w _ => by
  subst hw
  unfold execOp
  rcases hop with rfl | rfl | rfl | rfl <;> simp [ho, r.eval hx, r.eval hy, eqGuard, binOp, Op.intBits, bits]
theorem y_cvi {x : Operand} {src dst : Nat} {d : TypeDesc} {k k0 : IntKind} {p c : Int} (ho : o.op = .convert src dst x) (hx : env.ev x = some (.int k0 p)) (hs : P.underlying src = some d) (hd : P.underlying dst = some (.int k)) (hw : k.wrap p = c) : Yld P n env S o (.int k c) := fun a r w _ => by
  subst hw
  unfold execOp
  simp [ho, r.eval hx, convert, run_underlying hs, run_underlying hd, Conv.intToInt]
omit [Dfs] in
theorem run_equalIn_bool {P : Program} {t : Nat} (ht : P.underlying t = some .bool) (p q : Bool) (d : Nat) (w : World) : (Op.equalIn (d + 1) t (.bool p) (.bool q)).run P w = .ok (p == q) w := by
  simp [Op.equalIn, run_underlying ht]
theorem y_eqb {x y : Operand} {t u : Nat} {p q : Bool} (ho : o.op = .binOp .eql t x y u) (hx : env.ev x = some (.bool p)) (hy : env.ev y = some (.bool q)) (ht : P.underlying t = some .bool) : Yld P n env S o (.bool (p == q)) := fun a r w _ => by
  have h := run_equalIn_bool ht p q 9999 w
  unfold execOp
  simp only [ho, r.eval hx, r.eval hy]
  simp only [eqGuard, binOp]
  simp [Op.equal, Op.maxDepth, h]
theorem y_eqs {x y : Operand} {t u : Nat} {p q : List UInt8} (ho : o.op = .binOp .eql t x y u) (hx : env.ev x = some (sv p)) (hy : env.ev y = some (sv q)) : Yld P n env S o (.bool (p == q)) := fun a r w _ => by
  unfold execOp; simp [ho, r.eval hx, r.eval hy, eqGuard, binOp, Op.stringOp]
theorem y_nes {x y : Operand} {t u : Nat} {p q : List UInt8} (ho : o.op = .binOp .neq t x y u) (hx : env.ev x = some (sv p)) (hy : env.ev y = some (sv q)) : Yld P n env S o (.bool (p != q)) := fun a r w _ => by
  unfold execOp; simp [ho, r.eval hx, r.eval hy, eqGuard, binOp, Op.stringOp, bne]
theorem y_cat {x y : Operand} {t u : Nat} {p q : List UInt8} (ho : o.op = .binOp .add t x y u) (hx : env.ev x = some (sv p)) (hy : env.ev y = some (sv q)) (hl : p.length + q.length ≤ 9223372036854775807) : Yld P n env S o (sv (p ++ q)) := fun a r w _ => by
  have e : (⟨p.toArray⟩ : ByteArray) ++ ⟨q.toArray⟩ = ⟨(p ++ q).toArray⟩ := by
    apply ByteArray.ext; simp
  have hl' : ¬ IntKind.i64.max < (((⟨p.toArray⟩ : ByteArray).size + (⟨q.toArray⟩ : ByteArray).size : Nat) : Int) := by
    have h1 : IntKind.i64.max = 9223372036854775807 := by decide
    rw [h1]; simp [ByteArray.size]; omega
  unfold execOp
  simp only [ho, r.eval hx, r.eval hy]
  simp only [eqGuard, binOp, Op.stringOp, gt_iff_lt, if_neg hl', e]
  rfl
omit [Dfs] in
theorem run_builtin1 {b : Builtin} {x : Operand} {t : Nat} {u : Value} {a : Act} {w w' : World} (ho : o.op = .call { callee := .builtin b, args := #[x], argTypes := #[t] }) (hx : a.eval x = u)
    (h : ∀ cs, (builtin b #[t] o.type cs #[u]).run P w = .ok (.value v) w') : (execOp a.eval o).run P w = .ok (.value v) w' := by
  unfold execOp
  simp only [ho, resolve, List.map_toArray, List.map_cons, List.map_nil, hx, Sem.run_bind, Sem.run_pure, Result.andThen_ok, invoke, h]
theorem y_lens {x : Operand} {t : Nat} {p : List UInt8} (ho : o.op = .call { callee := .builtin .len, args := #[x], argTypes := #[t] }) (hx : env.ev x = some (sv p)) (ht : P.underlying t = some .string) : Yld P n env S o (.int .i64 p.length) := fun a r w _ =>
  run_builtin1 ho (r.eval hx) fun cs => by
    have h : (Builtin.len_ #[t] o.type #[sv p]).run P w = .ok (goInt (⟨p.toArray⟩ : ByteArray).size) w := by simp [Builtin.len_, run_underlying ht]
    simp only [builtin, Sem.run_bind, h, Result.andThen_ok]
    rfl
theorem y_lenl {x : Operand} {t e : Nat} {b : Option Addr} {l c : Nat} (ho : o.op = .call { callee := .builtin .len, args := #[x], argTypes := #[t] }) (hx : env.ev x = some (.slice b l c)) (ht : P.underlying t = some (.slice e)) : Yld P n env S o (.int .i64 l) := fun a r w _ =>
  run_builtin1 ho (r.eval hx) fun cs => by
    have h : (Builtin.len_ #[t] o.type #[.slice b l c]).run P w = .ok (goInt l) w := by simp [Builtin.len_, run_underlying ht]
    simp only [builtin, Sem.run_bind, h, Result.andThen_ok]
    rfl
end
end Go.Proofs.YtdckemiebnfjcaaGreatDoor
end

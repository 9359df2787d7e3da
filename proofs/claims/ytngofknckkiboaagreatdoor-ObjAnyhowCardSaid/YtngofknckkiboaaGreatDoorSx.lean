/- A small program logic of our own: code is walked over an environment (a list of slots with their values) instead of the whole frame.
   Nothing here names a program: every rule holds for any program. -/
import Derived.Handy
import Derived.WalkSpells
import Derived.WalkLawsBesides
import Derived.OrdersHeld
import Derived.Laws.CopyRow
import Derived.Deep.MidRow
import Derived.LoopN
import Derived.Lib.BufferWrite
import Derived.LoopNIn
import Derived.TacticsIn
import Derived.RangeFuncKeeps
import Derived.RangeFuncCalls
namespace Go.Proofs.YtngofknckkiboaaGreatDoor
open Go.RowKit

theorem beq_ne {d k : Nat} (e : ¬ d = k) : Nat.beq d k = false := by
  rcases h : Nat.beq d k with _ | _
  · rfl
  · exact absurd (Nat.eq_of_beq_eq_true h) e

/-- Where the code is walked: the deferred calls that are pending, and the loop record of the round (none: the function's own frame). -/
class Dfs where
  ds : List Deferred
  ro : Option Nat
instance (priority := 100) dfs0 : Dfs := ⟨[], none⟩
def Fw (ro : Option Nat) : Fence := { Fence.wide with round := ro }
theorem Fw_none : Fw none = Fence.wide := rfl

abbrev Env := List (Nat × Value)

def Env.get : Env → Nat → Option Value
  | [], _ => none
  | (j, v) :: r, k => bif Nat.beq j k then some v else Env.get r k

def Env.ev (e : Env) : Operand → Option Value
  | .tmp t => e.get t
  | .const v => some v
  | .global g => some (.pointer (some ⟨g, 0, none⟩))
  | .func f => some (.func (.func f) #[] #[])

def Env.evs (e : Env) : List Operand → Option (List Value)
  | [] => some []
  | x :: r => match e.ev x, Env.evs e r with
    | some v, some vs => some (v :: vs)
    | _, _ => none

section
variable [Dfs]

structure Rep (n : Nat) (env : Env) (a : Act) : Prop where
  size : a.tmps.size = n
  defers : a.defers = Dfs.ds
  get : ∀ k v, env.get k = some v → a.tmps[k]? = some v

theorem Rep.eval {n : Nat} {env : Env} {a : Act} (h : Rep n env a) {x : Operand} {v : Value} (hx : env.ev x = some v) : a.eval x = v := by
  cases x with
  | tmp t =>
    have := h.get t v hx
    simp [Act.eval, this]
  | const u => simpa [Env.ev, Act.eval] using hx
  | global g => simpa [Env.ev, Act.eval] using hx
  | func f => simpa [Env.ev, Act.eval] using hx

theorem Rep.evals {n : Nat} {env : Env} {a : Act} (h : Rep n env a) : ∀ {xs : List Operand} {vs : List Value}, env.evs xs = some vs → xs.map a.eval = vs
  | [], vs, hx => by simpa [Env.evs] using hx
  | x :: r, vs, hx => by
    simp only [Env.evs] at hx
    split at hx
    · rename_i v us h1 h2
      simp only [Option.some.injEq] at hx
      rw [← hx, List.map_cons, h.eval h1, h.evals h2]
    · cases hx

theorem Rep.put {n d : Nat} {env : Env} {a : Act} (h : Rep n env a) (hd : Nat.blt d n = true) (v : Value) : Rep n ((d, v) :: env) (a.put (some d) v) := by
  have hd' : d < n := by simpa [Nat.blt_eq] using hd
  refine ⟨by simp [Act.put, h.size], by simp [Act.put, h.defers], fun k u hk => ?_⟩
  unfold Env.get at hk
  by_cases e : d = k
  · subst e
    simp at hk
    subst hk
    simp [Act.put, h.size, hd']
  · have hb : Nat.beq d k = false := beq_ne e
    rw [hb] at hk
    simp only [cond_false] at hk
    simp [Act.put, Array.getElem?_setIfInBounds_ne e, h.get k u hk]

theorem Rep.putNone {n : Nat} {env : Env} {a : Act} (h : Rep n env a) (v : Value) : Rep n env (a.put none v) := h

/-- What one environment says, another says too. -/
def Env.Le : Env → Env → Prop
  | [], _ => True
  | (k, v) :: r, e => e.get k = some v ∧ Env.Le r e

omit [Dfs] in
theorem Env.Le.get {e : Env} : ∀ {s : Env}, Env.Le s e → ∀ k v, s.get k = some v → e.get k = some v
  | [], _, k, v, hk => by simp [Env.get] at hk
  | (j, u) :: r, h, k, v, hk => by
    unfold Env.get at hk
    by_cases ejk : j = k
    · subst ejk
      simp at hk
      subst hk
      exact h.1
    · have hb : Nat.beq j k = false := beq_ne ejk
      rw [hb] at hk
      exact Env.Le.get h.2 k v hk

theorem Rep.weak {n : Nat} {env env' : Env} {a : Act} (h : Rep n env a) (hl : Env.Le env' env) : Rep n env' a :=
  ⟨h.size, h.defers, fun k v hk => h.get k v (hl.get k v hk)⟩

abbrev EQ := Exit → Env → World → Prop

def Lf (n : Nat) (Q : EQ) : Exit → Act → World → Prop := fun e a w => ∃ env, Rep n env a ∧ Q e env w

/-- The walk's own weakest precondition. -/
def Wp (P : Program) (n : Nat) (c : Code) (Q : EQ) (env : Env) (w : World) : Prop := ∀ a, Rep n env a → c.wpIn (Fw Dfs.ro) 0 P (Lf n Q) a w

/-- No deferred call. -/
def ndB (o : Oper) : Bool := match o.op with
  | .defer _ => false
  | _ => true
omit [Dfs] in
theorem ndB_spec {o : Oper} (h : ndB o = true) : ∀ c, o.op ≠ .defer c := fun c hc => by simp [ndB, hc] at h
omit [Dfs] in
theorem Oper.semFw {o : Oper} (ro : Option Nat) (h : ndB o = true) (ρ : Operand → Value) : o.semAt (Fw ro).round ρ = execOp ρ o := Oper.semAt_eq _ _ _ (ndB_spec h)

omit [Dfs] in
/-- What holds of an operation in the plain calculus holds in a round's frame. -/
theorem upon_in {o : Oper} {ro : Option Nat} {P : Program} {a : Act} {K : Act → World → Prop} {Q : Exit → Act → World → Prop} {r : Result Next} (h : o.upon P a K Q r) : o.uponIn (Fw ro) 0 P a K Q r := by
  cases r with
  | ok x w' =>
    cases x <;> simp only [Oper.upon, Oper.uponIn] at h ⊢ <;>
      first
        | exact h
        | (refine ⟨fun h => by simp [Fw, Fence.wide] at h, ?_⟩; exact (callsIn_wide (n := 0 - 1)).2 h)
        | (refine ⟨fun h => by simp [Fw, Fence.wide] at h, fun c cs _ => ?_⟩; obtain ⟨v, w', r, s⟩ := h c cs; exact ⟨v, w', r, stepsIn_wide.2 s⟩)
  | halt x w' => cases x <;> simp only [Oper.upon, Oper.uponIn] at h ⊢ <;> exact h
omit [Dfs] in
theorem wpIn_op {o : Oper} {ro : Option Nat} {P : Program} {a : Act} {w : World} {K : Act → World → Prop} {Q : Exit → Act → World → Prop} (hnd : ndB o = true) (h : o.wp P a w K Q) : o.wpIn (Fw ro) 0 P a w K Q := by
  refine ⟨fun _ _ => trivial, ?_⟩
  rw [Oper.semFw ro hnd]
  exact upon_in h
omit [Dfs] in
theorem wpOps_in {ro : Option Nat} {P : Program} {ops : Array Oper} {Q : Exit → Act → World → Prop} (hl : ¬ LetsOut Q) (hnd : ops.toList.all ndB = true) : ∀ (l : List Nat) (a : Act) (w : World), wpOps P ops Q l a w → wpOpsIn (Fw ro) 0 P ops Q l a w
  | [], _, _, h => h
  | i :: l, a, w, h => by
    simp only [wpOps] at h
    simp only [wpOpsIn]
    cases ho : ops[i]? with
    | none => simp only [ho] at h ⊢; exact wpOps_in hl hnd l a w h
    | some o =>
      simp only [ho] at h ⊢
      have hn : ndB o = true := List.all_eq_true.1 hnd o (by
        obtain ⟨h1, h2⟩ := Array.getElem?_eq_some_iff.1 ho
        rw [← h2]; exact Array.getElem_mem_toList h1)
      split
      · rename_i hw
        rw [if_pos hw] at h
        rcases h with h | h
        · exact wpIn_op hn (Oper.wp_mono (fun a w => wpOps_in hl hnd l a w) h)
        · exact absurd h.2 hl
      · rename_i hw
        rw [if_neg hw] at h
        exact ⟨fun _ _ => trivial, wpOps_in hl hnd l _ w h⟩
omit [Dfs] in
theorem wpIn_draw {ro : Option Nat} {id : Nat} {P : Program} {ops : Array Oper} {Q : Exit → Act → World → Prop} {a : Act} {w : World} (hm : P.follows .mixedOrders = true) (hl : ¬ LetsOut Q) (hnd : ops.toList.all ndB = true)
    (h : wpAny P .any ops Q ops.size (Array.replicate ops.size false) a w.drew) : (Code.region id ops true).wpIn (Fw ro) 0 P Q a w :=
  wpIn_region_draw fun t => wpOps_in hl hnd _ a _ (by
    simp only [Region.schedule, hm, Bool.true_or, if_true]
    exact wpAny_sound ops.size t _ a _ h)
omit [Dfs] in
theorem letsOutN {K : Act → World → Prop} : ¬ LetsOut (fun e a w => match e with | .normal => K a w | _ => False) := fun ⟨_, _, h⟩ => h

/-- What is left of a list of operations that run in their order. -/
def Ls (P : Program) (n : Nat) (ops : Array Oper) (Q : EQ) (l : List Oper) (env : Env) (w : World) : Prop := l.all ndB = true → ∀ a, Rep n env a → wpListIn (Fw Dfs.ro) 0 P ops (Lf n Q) l a w

def Th (K : Env → World → Prop) (Q : EQ) : EQ
  | .normal, env, w => K env w
  | e, env, w => Q e env w

def Ib (id : Nat) (Q : EQ) : EQ
  | .exit i, env, w => bif Nat.beq i id then Q .normal env w else Q (.exit i) env w
  | e, env, w => Q e env w

section
variable {P : Program} {n : Nat} {Q : EQ} {env : Env} {w : World} {c x y : Code}

theorem Wp_weak (env' : Env) (hl : Env.Le env' env) (h : Wp P n c Q env' w) : Wp P n c Q env w := fun a r => h a (r.weak hl)
theorem Ls_weak {ops : Array Oper} {l : List Oper} (env' : Env) (hl : Env.Le env' env) (h : Ls P n ops Q l env' w) : Ls P n ops Q l env w := fun hd a r => h hd a (r.weak hl)
theorem Wp_skip (h : Q .normal env w) : Wp P n .skip Q env w := fun _ r => wpIn_skip ⟨env, r, h⟩
theorem Wp_label {l : Nat} (h : Q .normal env w) : Wp P n (.label l) Q env w := fun _ r => wpIn_label ⟨env, r, h⟩
theorem Wp_exit {id : Nat} (h : Q (.exit id) env w) : Wp P n (.exit id) Q env w := fun _ r => wpIn_exit ⟨env, r, h⟩
theorem Wp_ret (h : Q .ret env w) : Wp P n .ret Q env w := fun _ r => wpIn_ret ⟨env, r, h⟩

theorem Wp_seq (h : ∀ K : Env → World → Prop, (∀ e v, Wp P n y Q e v → K e v) → Wp P n x (Th K Q) env w) : Wp P n (.seq x y) Q env w := fun a r =>
  wpIn_seq (Code.wpIn_mono (fun e a' w' hq => by
    obtain ⟨env', r', q⟩ := hq
    cases e with
    | normal => exact q a' r'
    | _ => exact ⟨env', r', q⟩) (h (Wp P n y Q) (fun _ _ h => h) a r))

theorem Wp_cond_t {b : Operand} (hb : env.ev b = some (.bool true)) (h : Wp P n x Q env w) : Wp P n (.cond b x y) Q env w := fun a r =>
  wpIn_cond_true (r.eval hb) (h a r)
theorem Wp_cond_f {b : Operand} (hb : env.ev b = some (.bool false)) (h : Wp P n y Q env w) : Wp P n (.cond b x y) Q env w := fun a r =>
  wpIn_cond_false (r.eval hb) (h a r)
theorem Wp_cond {b : Operand} {t : Bool} (hb : env.ev b = some (.bool t)) (h1 : t = true → Wp P n x Q env w) (h2 : t = false → Wp P n y Q env w) : Wp P n (.cond b x y) Q env w := by
  cases t
  · exact Wp_cond_f hb (h2 rfl)
  · exact Wp_cond_t hb (h1 rfl)

theorem Wp_block {id : Nat} (h : Wp P n c (Ib id Q) env w) : Wp P n (.block id c) Q env w := fun a r =>
  wpIn_block (Code.wpIn_mono (fun e a' w' hq => by
    obtain ⟨env', r', q⟩ := hq
    cases e with
    | exit i =>
      unfold Exit.inBlock
      by_cases hi : i = id
      · subst hi
        simp only [Ib] at q ⊢
        simp at q ⊢
        exact ⟨env', r', q⟩
      · have hb : Nat.beq i id = false := beq_ne hi
        simp only [Ib, hb, cond_false] at q
        simp only [hi, if_false]
        exact ⟨env', r', q⟩
    | _ => exact ⟨env', r', q⟩) (h a r))

theorem Wp_mono {Q' : EQ} (h : Wp P n c Q env w) (hq : ∀ e v u, Q e v u → Q' e v u) : Wp P n c Q' env w := fun a r =>
  Code.wpIn_mono (fun _ _ _ ⟨env', r', q⟩ => ⟨env', r', hq _ _ _ q⟩) (h a r)

/-- A loop: I at its head, with a number that goes down in each round. -/
theorem Wp_loop (I : Nat → Env → World → Prop) (m0 : Nat) (h0 : I m0 env w)
    (h : ∀ m env w, I m env w → Wp P n c (Th (fun env' w' => ∃ m', m' < m ∧ I m' env' w') Q) env w) : Wp P n (.loop c) Q env w := by
  intro a r
  have key : ∀ N m env w a, m < N → I m env w → Rep n env a → Code.roundsIn (Fw Dfs.ro) 0 P c (Lf n Q) N a w := by
    intro N
    induction N with
    | zero => intro m env w a hm; omega
    | succ N ih =>
      intro m env w a hm hi ra
      rw [roundsIn_succ]
      refine Code.wpIn_mono (fun e a' w' hq => ?_) (h m env w hi a ra)
      obtain ⟨env', r', q⟩ := hq
      cases e with
      | normal =>
        obtain ⟨m', hlt, hi'⟩ := q
        exact ih m' env' w' a' (by omega) hi' r'
      | _ => exact ⟨env', r', q⟩
  exact wpIn_loop_rounds (m0 + 1) (key (m0 + 1) m0 env w a (by omega) h0 r)

theorem Wp_region {id : Nat} {l : List Oper} (h : Ls P n l.toArray Q l env w) (hnd : l.all ndB = true := by rfl) : Wp P n (.region id l.toArray false) Q env w := fun a r => wpIn_region_lit (h hnd a r)

end

/-! ### Operations -/

/-- Is the operation carried out? -/
def Wtd (n : Nat) (env : Env) (ops : Array Oper) (o : Oper) (b : Bool) : Prop := ∀ a, Rep n env a → Region.wanted o (yielded ops a.tmps) = b

theorem wtd0 {n : Nat} {env : Env} {ops : Array Oper} {o : Oper} (hg : o.guard = none) : Wtd n env ops o true := fun _ _ => by simp [Region.wanted, hg]
theorem wtd1 {n : Nat} {env : Env} {ops : Array Oper} {o : Oper} {j s : Nat} {b c : Bool} (hg : o.guard = some (j, b)) (hj : (ops[j]?).bind (·.dst) = some s) (hs : env.get s = some (.bool c)) :
    Wtd n env ops o (c == b) := fun a r => by
  have := r.get s _ hs
  simp [Region.wanted, hg, yielded, hj, this]
theorem wtdT {n : Nat} {env : Env} {ops : Array Oper} {o : Oper} {j s : Nat} {b : Bool} (hg : o.guard = some (j, b)) (hj : (ops[j]?).bind (·.dst) = some s) (hs : env.get s = some (.bool b)) :
    Wtd n env ops o true := fun a r => by
  have := wtd1 (n := n) (ops := ops) hg hj hs a r
  simpa using this
theorem wtdF {n : Nat} {env : Env} {ops : Array Oper} {o : Oper} {j s : Nat} {b : Bool} (hg : o.guard = some (j, b)) (hj : (ops[j]?).bind (·.dst) = some s) (hs : env.get s = some (.bool (!b))) :
    Wtd n env ops o false := fun a r => by
  have := wtd1 (n := n) (ops := ops) hg hj hs a r
  cases b <;> simpa using this

/-- In every world that meets S the operation leaves v in its slot, and nothing else happens. -/
def Yld (P : Program) (n : Nat) (env : Env) (S : World → Prop) (o : Oper) (v : Value) : Prop := ∀ a, Rep n env a → ∀ w, S w → (execOp a.eval o).run P w = .ok (.value v) w

/-- The operation acts: what is behind it. -/
def Act1 (P : Program) (n : Nat) (env : Env) (w : World) (o : Oper) (K : Env → World → Prop) : Prop := ∀ a, Rep n env a → o.wp P a w (fun a' w' => ∃ env', Rep n env' a' ∧ K env' w') (fun _ _ _ => False)

def Env.dst (env : Env) (d : Option Nat) (v : Value) : Env := match d with
  | some d => (d, v) :: env
  | none => env

theorem Rep.dst {n : Nat} {env : Env} {a : Act} (h : Rep n env a) {d : Option Nat} (hd : (d.all (Nat.blt · n)) = true) (v : Value) : Rep n (env.dst d v) (a.put d v) := by
  cases d with
  | none => exact h
  | some d => exact h.put (by simpa using hd) v

omit [Dfs] in
theorem wp_noFalse {P : Program} {o : Oper} {a : Act} {w : World} {K : Act → World → Prop} {Q : Exit → Act → World → Prop} (h : o.wp P a w K (fun _ _ _ => False)) : o.wp P a w K Q := by
  unfold Oper.wp at *
  generalize (execOp a.eval o).run P w = r at *
  cases r with
  | ok x w' =>
    cases x <;> simp only [Oper.upon] at h ⊢ <;>
      first
        | exact h
        | exact Calls.mono h (fun e w'' he => by
            cases e with
            | returned v => exact he
            | panicked c => exact he.elim
            | outgrown => obtain ⟨_, _, hf⟩ := he; exact hf.elim)
  | halt x w' => cases x <;> simp only [Oper.upon] at h ⊢ <;> exact h.elim

section
variable {P : Program} {n : Nat} {Q : EQ} {env : Env} {w : World} {ops : Array Oper} {o : Oper} {rest : List Oper}

theorem Ls_nil (h : Q .normal env w) : Ls P n ops Q [] env w := fun _ _ r => wpListIn_nil ⟨env, r, h⟩
omit [Dfs] in
theorem nd_hd {o : Oper} {l : List Oper} (h : (o :: l).all ndB = true) : ndB o = true := by simp only [List.all_cons, Bool.and_eq_true] at h; exact h.1
omit [Dfs] in
theorem nd_tl {o : Oper} {l : List Oper} (h : (o :: l).all ndB = true) : l.all ndB = true := by simp only [List.all_cons, Bool.and_eq_true] at h; exact h.2

theorem Ls_y {v : Value} {d : Nat} (hw : Wtd n env ops o true) (hd : o.dst = some d) (hn : Nat.blt d n = true) (hy : Yld P n env (· = w) o v) (h : Ls P n ops Q rest ((d, v) :: env) w) : Ls P n ops Q (o :: rest) env w := fun hnd a r =>
  wpListIn_step fun K hK => by
    rw [if_pos (hw a r)]
    refine wpIn_op (nd_hd hnd) ?_
    unfold Oper.wp
    rw [hy a r w rfl]
    have r' := r.put hn v
    rw [← hd] at r'
    exact hK _ _ (h (nd_tl hnd) _ r')
theorem Ls_y0 {v : Value} (hw : Wtd n env ops o true) (hd : o.dst = none) (hy : Yld P n env (· = w) o v) (h : Ls P n ops Q rest env w) : Ls P n ops Q (o :: rest) env w := fun hnd a r =>
  wpListIn_step fun K hK => by
    rw [if_pos (hw a r)]
    refine wpIn_op (nd_hd hnd) ?_
    unfold Oper.wp
    rw [hy a r w rfl]
    refine hK _ _ (h (nd_tl hnd) _ ?_)
    rw [hd]
    exact r

theorem Ls_s {d : Nat} (hw : Wtd n env ops o false) (hd : o.dst = some d) (hn : Nat.blt d n = true) (h : Ls P n ops Q rest ((d, undef) :: env) w) : Ls P n ops Q (o :: rest) env w := fun hnd a r =>
  wpListIn_step fun K hK => by
    rw [if_neg (by rw [hw a r]; decide)]
    have r' := r.put hn undef
    rw [← hd] at r'
    exact ⟨fun _ _ => trivial, hK _ _ (h (nd_tl hnd) _ r')⟩
theorem Ls_s0 (hw : Wtd n env ops o false) (hd : o.dst = none) (h : Ls P n ops Q rest env w) : Ls P n ops Q (o :: rest) env w := fun hnd a r =>
  wpListIn_step fun K hK => by
    rw [if_neg (by rw [hw a r]; decide)]
    refine ⟨fun _ _ => trivial, hK _ _ (h (nd_tl hnd) _ ?_)⟩
    rw [hd]
    exact r

theorem Ls_a (hw : Wtd n env ops o true) (h : Act1 P n env w o (fun env' w' => Ls P n ops Q rest env' w')) : Ls P n ops Q (o :: rest) env w := fun hnd a r =>
  wpListIn_step fun K hK => by
    rw [if_pos (hw a r)]
    exact wpIn_op (nd_hd hnd) (wp_noFalse (Oper.wp_mono (fun a' w' ⟨env', r', hl⟩ => hK _ _ (hl (nd_tl hnd) a' r')) (h a r)))
end

/-! ### A region that draws its order: the operations that only look are taken first, each other one comes alone -/

/-- The order in which the operations are walked: (true, i): i only looks; (false, i): i acts, and nobody else could come then. -/
def planB (md : Region.Mode) (ops : Array Oper) : List (Bool × Nat) → Array Bool → Bool
  | [], listed => (Region.ready md ops listed).isEmpty
  | (true, i) :: r, listed => (Region.ready md ops listed).contains i && Region.free md ops listed i && planB md ops r (listed.setIfInBounds i true)
  | (false, i) :: r, listed => Region.ready md ops listed == [i] && planB md ops r (listed.setIfInBounds i true)

def Pl (P : Program) (n : Nat) (ops : Array Oper) (S : World → Prop) (Q : EQ) : List (Bool × Nat) → Env → World → Prop
  | [], env, w => Q .normal env w
  | (true, i) :: r, env, w => ∃ o, ops[i]? = some o ∧ (o.dst.all (Nat.blt · n)) = true ∧
      ((Wtd n env ops o true ∧ ∃ v, Yld P n env S o v ∧ Pl P n ops S Q r (env.dst o.dst v) w) ∨ (Wtd n env ops o false ∧ Pl P n ops S Q r (env.dst o.dst undef) w))
  | (false, i) :: r, env, w => ∃ o, ops[i]? = some o ∧ (o.dst.all (Nat.blt · n)) = true ∧
      ((Wtd n env ops o true ∧ Act1 P n env w o (fun env' w' => S w' ∧ Pl P n ops S Q r env' w')) ∨ (Wtd n env ops o false ∧ Pl P n ops S Q r (env.dst o.dst undef) w))

section
variable {P : Program} {n : Nat} {Q : EQ} {env : Env} {w : World} {ops : Array Oper} {S : World → Prop}

theorem Pl_sound (hs : Region.noSelect ops = true) : ∀ (l : List (Bool × Nat)) (listed : Array Bool) (env : Env) (w : World) (a : Act), planB .any ops l listed = true → Rep n env a → S w →
    Pl P n ops S Q l env w → wpAnyH P .any ops (fun e a w => match e with | .normal => Lf n Q .normal a w | _ => False) S l.length listed a w
  | [], listed, env, w, a, hB, r, hS, h => wpAnyH_done (by simpa [planB] using hB) ⟨env, r, h⟩ _
  | (true, i) :: l, listed, env, w, a, hB, r, hS, h => by
    simp only [planB, Bool.and_eq_true] at hB
    obtain ⟨⟨h1, h2⟩, h3⟩ := hB
    obtain ⟨o, ho, hd, h⟩ := h
    rcases h with ⟨hw, v, hy, h⟩ | ⟨hw, h⟩
    · exact wpAnyH_take (v := v) ho hs h2 h1 (fun _ _ _ hf => hf) (.inl ⟨hw a r, fun w' hS' => hy a r w' hS'⟩) hS (Pl_sound hs l _ _ w _ h3 (r.dst hd v) hS h)
    · exact wpAnyH_take (v := undef) ho hs h2 h1 (fun _ _ _ hf => hf) (.inr ⟨hw a r, rfl⟩) hS (Pl_sound hs l _ _ w _ h3 (r.dst hd undef) hS h)
  | (false, i) :: l, listed, env, w, a, hB, r, hS, h => by
    simp only [planB, Bool.and_eq_true, beq_iff_eq] at hB
    obtain ⟨h1, h3⟩ := hB
    obtain ⟨o, ho, hd, h⟩ := h
    refine wpAnyH_all h1 (by simp) fun j hj => ?_
    obtain rfl : j = i := by simpa using hj
    unfold wpOp
    simp only [ho]
    rcases h with ⟨hw, h⟩ | ⟨hw, h⟩
    · rw [if_pos (hw a r)]
      exact .inl (wp_noFalse (Oper.wp_mono (fun a' w' ⟨env', r', hS', hl⟩ => ⟨hS', Pl_sound hs l _ env' w' a' h3 r' hS' hl⟩) (h a r)))
    · rw [if_neg (by rw [hw a r]; decide)]
      exact ⟨hS, Pl_sound hs l _ _ w _ h3 (r.dst hd undef) hS h⟩

/-- Q, of an environment that says no less. -/
def Qs (Q : EQ) : EQ := fun e env w => ∃ e' : Env, (∀ k v, e'.get k = some v → env.get k = some v) ∧ Q e e' w

theorem Wp_plan {id : Nat} {l : List Oper} (S : World → Prop) (pl : List (Bool × Nat)) (hm : P.follows .mixedOrders = true) (hs : Region.noSelect l.toArray = true)
    (hB : planB .any l.toArray pl (Array.replicate l.toArray.size false) = true) (hlen : pl.length = l.toArray.size) (hS : S w.drew) (h : Pl P n l.toArray S (Qs Q) pl env w.drew) (hnd : l.all ndB = true := by rfl) : Wp P n (.region id l.toArray true) Q env w := fun a r => by
  have h1 := Pl_sound (P := P) (n := n) (Q := Qs Q) (S := S) hs pl _ env w.drew a hB r hS h
  rw [hlen] at h1
  have h2 : (Code.region id l.toArray true).wpIn (Fw Dfs.ro) 0 P (fun e a w => match e with | .normal => Lf n (Qs Q) .normal a w | _ => False) a w := wpIn_draw hm letsOutN (by simpa using hnd) (wpAny_of_held _ _ _ _ h1)
  refine Code.wpIn_mono (fun e a' w' hq => ?_) h2
  cases e <;> first | exact hq.elim | (obtain ⟨env', r', e2, hsub, q⟩ := hq; exact ⟨e2, ⟨r'.size, r'.defers, fun k v hk => r'.get k v (hsub k v hk)⟩, q⟩)

omit [Dfs] in
theorem sub_cons {e env : Env} (h : ∀ k v, e.get k = some v → env.get k = some v) (d : Nat) (u : Value) : ∀ k v, Env.get ((d, u) :: e) k = some v → Env.get ((d, u) :: env) k = some v := fun k v hk => by
  unfold Env.get at hk ⊢
  cases hb : Nat.beq d k with
  | true => rw [hb] at hk; exact hk
  | false => rw [hb] at hk; exact h k v hk
omit [Dfs] in
theorem sub_dst {e env : Env} (h : ∀ k v, e.get k = some v → env.get k = some v) (d : Option Nat) (u : Value) : ∀ k v, (e.dst d u).get k = some v → (env.dst d u).get k = some v := by
  cases d with
  | none => exact h
  | some d => exact sub_cons h d u
theorem Rep.sub {a : Act} {e : Env} (r : Rep n env a) (h : ∀ k v, e.get k = some v → env.get k = some v) : Rep n e a := ⟨r.size, r.defers, fun k v hk => r.get k v (h k v hk)⟩

theorem Pl_mono : ∀ (l : List (Bool × Nat)) (e env : Env) (w : World), (∀ k v, e.get k = some v → env.get k = some v) → Pl P n ops S (Qs Q) l e w → Pl P n ops S (Qs Q) l env w
  | [], _, _, _, h, hp => by
    obtain ⟨e2, h2, q⟩ := hp
    exact ⟨e2, fun k v hk => h k v (h2 k v hk), q⟩
  | (true, i) :: l, e, env, w, h, hp => by
    obtain ⟨o, ho, hd, hp⟩ := hp
    refine ⟨o, ho, hd, ?_⟩
    rcases hp with ⟨hw, v, hy, hp⟩ | ⟨hw, hp⟩
    · exact .inl ⟨fun a r => hw a (r.sub h), v, fun a r => hy a (r.sub h), Pl_mono l _ _ w (sub_dst h _ _) hp⟩
    · exact .inr ⟨fun a r => hw a (r.sub h), Pl_mono l _ _ w (sub_dst h _ _) hp⟩
  | (false, i) :: l, e, env, w, h, hp => by
    obtain ⟨o, ho, hd, hp⟩ := hp
    refine ⟨o, ho, hd, ?_⟩
    rcases hp with ⟨hw, hp⟩ | ⟨hw, hp⟩
    · exact .inl ⟨fun a r => hw a (r.sub h), fun a r => hp a (r.sub h)⟩
    · exact .inr ⟨fun a r => hw a (r.sub h), Pl_mono l _ _ w (sub_dst h _ _) hp⟩

theorem Pl_nil (h : Q .normal env w) : Pl P n ops S (Qs Q) [] env w := ⟨env, fun _ _ h => h, h⟩
omit [Dfs] in
theorem Env.dst_some {env : Env} {o : Oper} {d : Nat} (hd : o.dst = some d) (v : Value) : env.dst o.dst v = (d, v) :: env := by rw [hd]; rfl
omit [Dfs] in
theorem dst_all {o : Oper} {d n : Nat} (hd : o.dst = some d) (hn : Nat.blt d n = true) : (o.dst.all (Nat.blt · n)) = true := by rw [hd]; simpa using hn
theorem Pl_y {i d : Nat} {o : Oper} {r : List (Bool × Nat)} {v : Value} (ho : ops[i]? = some o) (hw : Wtd n env ops o true) (hd : o.dst = some d) (hn : Nat.blt d n = true) (hy : Yld P n env S o v) (h : Pl P n ops S Q r ((d, v) :: env) w) :
    Pl P n ops S Q ((true, i) :: r) env w := ⟨o, ho, dst_all hd hn, .inl ⟨hw, v, hy, by rw [Env.dst_some hd]; exact h⟩⟩
theorem Pl_y0 {i : Nat} {o : Oper} {r : List (Bool × Nat)} {v : Value} (ho : ops[i]? = some o) (hw : Wtd n env ops o true) (hd : o.dst = none) (hy : Yld P n env S o v) (h : Pl P n ops S Q r env w) :
    Pl P n ops S Q ((true, i) :: r) env w := ⟨o, ho, by rw [hd]; rfl, .inl ⟨hw, v, hy, by rw [hd]; exact h⟩⟩
theorem Pl_s {b : Bool} {i d : Nat} {o : Oper} {r : List (Bool × Nat)} (ho : ops[i]? = some o) (hw : Wtd n env ops o false) (hd : o.dst = some d) (hn : Nat.blt d n = true) (h : Pl P n ops S Q r ((d, undef) :: env) w) :
    Pl P n ops S Q ((b, i) :: r) env w := by
  cases b
  · exact ⟨o, ho, dst_all hd hn, .inr ⟨hw, by rw [Env.dst_some hd]; exact h⟩⟩
  · exact ⟨o, ho, dst_all hd hn, .inr ⟨hw, by rw [Env.dst_some hd]; exact h⟩⟩
theorem Pl_s0 {b : Bool} {i : Nat} {o : Oper} {r : List (Bool × Nat)} (ho : ops[i]? = some o) (hw : Wtd n env ops o false) (hd : o.dst = none) (h : Pl P n ops S Q r env w) :
    Pl P n ops S Q ((b, i) :: r) env w := by
  cases b
  · exact ⟨o, ho, by rw [hd]; rfl, .inr ⟨hw, by rw [hd]; exact h⟩⟩
  · exact ⟨o, ho, by rw [hd]; rfl, .inr ⟨hw, by rw [hd]; exact h⟩⟩
theorem Pl_a {i : Nat} {o : Oper} {r : List (Bool × Nat)} (ho : ops[i]? = some o) (hw : Wtd n env ops o true) (hd : (o.dst.all (Nat.blt · n)) = true) (h : Act1 P n env w o (fun env' w' => S w' ∧ Pl P n ops S Q r env' w')) :
    Pl P n ops S Q ((false, i) :: r) env w := ⟨o, ho, hd, .inl ⟨hw, h⟩⟩
/-- What only looks, in its own turn. -/
theorem a_y {K : Env → World → Prop} {o : Oper} {v : Value} {d : Nat} (hd : o.dst = some d) (hn : Nat.blt d n = true) (hy : Yld P n env (· = w) o v) (hk : K ((d, v) :: env) w) : Act1 P n env w o K := fun a r => by
  unfold Oper.wp
  rw [hy a r w rfl]
  have r' := r.put hn v
  rw [← hd] at r'
  exact ⟨_, r', hk⟩
end

/-! ### Functions -/

/-- What the results read as. -/
def Res (P : Program) (n : Nat) (fn : Func) (env : Env) (w : World) (v : Value) : Prop := ∀ a, Rep n env a → (results fn a.tmps).run P w = .ok v w

def Fq (P : Program) (n : Nat) (fn : Func) (R : Ending → World → Prop) : EQ
  | .normal, env, w | .ret, env, w => ∃ v, Res P n fn env w v ∧ R (.returned v) w
  | _, _, _ => False

def argEnv : Nat → List Value → Env
  | _, [] => []
  | i, v :: r => (i, v) :: argEnv (i + 1) r

omit [Dfs] in
theorem argEnv_get : ∀ (vs : List Value) (i k : Nat) (v : Value), (argEnv i vs).get k = some v → i ≤ k ∧ vs[k - i]? = some v
  | [], i, k, v, h => by simp [argEnv, Env.get] at h
  | u :: r, i, k, v, h => by
    unfold argEnv Env.get at h
    by_cases e : i = k
    · subst e
      simp at h
      subst h
      simp
    · have hb : Nat.beq i k = false := beq_ne e
      rw [hb] at h
      obtain ⟨h1, h2⟩ := argEnv_get r (i + 1) k v h
      refine ⟨by omega, ?_⟩
      rw [show k - i = (k - (i + 1)) + 1 by omega]
      simpa using h2

end

theorem Calls_of {P : Program} {f : FuncId} {fn : Func} {c : Code} {args : List Value} {w : World} {R : Ending → World → Prop} (n : Nat)
    (hf : P.funcs[f]? = some fn) (hb : fn.body = some c) (hn : fn.ntmps = n) (hle : Nat.ble args.length n = true) (h : Wp P n c (Fq P n fn R) (argEnv 0 args) w) : Calls P f args.toArray w R := by
  have h1 := h { tmps := args.toArray ++ Array.replicate (fn.ntmps - args.toArray.size) undef, defers := [] } ⟨?_, rfl, fun k v hk => ?_⟩
  · have h2 := (wpIn_wide (n := 0)).1 h1
    refine calls_of_wp hf hb (Code.wp_mono (fun e a' w' hq => ?_) h2)
    obtain ⟨env', r', q⟩ := hq
    cases e <;> simp only [Fq] at q <;> first | exact q.elim | skip
    all_goals
      obtain ⟨v, hv, hR⟩ := q
      exact ⟨r'.defers, v, hv a' r', hR⟩
  · have : args.length ≤ n := by simpa [Nat.ble_eq] using hle
    simp [hn]; omega
  · obtain ⟨_, h2⟩ := argEnv_get args 0 k v hk
    simp only [Nat.sub_zero] at h2
    have hlt : k < args.length := (List.getElem?_eq_some_iff.1 h2).1
    have h3 : args[k] = v := (List.getElem?_eq_some_iff.1 h2).2
    simp [Array.getElem?_append, hlt, h3]

section
variable [Dfs]
theorem Res1 {P : Program} {n : Nat} {fn : Func} {env : Env} {w : World} {t : Tmp} {v : Value} (h : fn.results = #[.tmp t]) (hv : env.get t = some v) : Res P n fn env w v := fun a r => by
  rw [results_tmp h]; have := r.get t v hv; simp [this]
theorem Res0 {P : Program} {n : Nat} {fn : Func} {env : Env} {w : World} (h : fn.results = #[]) : Res P n fn env w (.tuple #[]) := fun _ _ => results_none h _ _ _
theorem Res2 {P : Program} {n : Nat} {fn : Func} {env : Env} {w : World} {t u : Tmp} {v x : Value} (h : fn.results = #[.tmp t, .tmp u]) (hv : env.get t = some v) (hx : env.get u = some x) : Res P n fn env w (.tuple #[v, x]) := fun a r => by
  rw [results_tmp2 h]; have h1 := r.get t v hv; have h2 := r.get u x hx; simp [h1, h2]
theorem Res3 {P : Program} {n : Nat} {fn : Func} {env : Env} {w : World} {t u s : Tmp} {v x y : Value} (h : fn.results = #[.tmp t, .tmp u, .tmp s]) (hv : env.get t = some v) (hx : env.get u = some x) (hy : env.get s = some y) :
    Res P n fn env w (.tuple #[v, x, y]) := fun a r => by
  have h1 := r.get t v hv; have h2 := r.get u x hx; have h3 := r.get s y hy; simp [results, h, h1, h2, h3]

end

end Go.Proofs.YtngofknckkiboaaGreatDoor

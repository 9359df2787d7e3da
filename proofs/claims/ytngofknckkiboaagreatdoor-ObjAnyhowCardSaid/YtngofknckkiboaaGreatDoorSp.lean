/- Regions that draw their order, step by step: for regions in which two acting operations may come in either order. -/
import Derived.Test.YtngofknckkiboaaGreatDoorSn
namespace Go.Proofs.YtngofknckkiboaaGreatDoor
open Go.RowKit

def Px [Dfs] (P : Program) (n : Nat) (ops : Array Oper) (S : World → Prop) (Q : EQ) (fuel : Nat) (listed : Array Bool) (env : Env) (w : World) : Prop :=
  ∀ a, Rep n env a → S w → wpAnyH P .any ops (fun e a w => match e with | .normal => Lf n (Qs Q) .normal a w | _ => False) S fuel listed a w

def rdyB (ops : Array Oper) (listed : Array Bool) (i : Nat) : Bool := (Region.ready .any ops listed).contains i && Region.free .any ops listed i && Region.noSelect ops

theorem wpAnyH_mono {P : Program} {ops : Array Oper} {Q : Exit → Act → World → Prop} {S S' : World → Prop} (hS : ∀ w, S' w → S w) : ∀ (fuel : Nat) (listed : Array Bool) (a : Act) (w : World), wpAnyH P .any ops Q S' fuel listed a w → wpAnyH P .any ops Q S fuel listed a w
  | 0, _, _, _, h => h
  | fuel + 1, _, _, _, h => ⟨h.1, fun i hi => wpOp_mono (fun a' w' h' => ⟨hS _ h'.1, wpAnyH_mono hS fuel _ a' w' h'.2⟩) (h.2 i hi)⟩

section
variable [Dfs] {P : Program} {n : Nat} {Q : EQ} {env : Env} {w : World} {ops : Array Oper} {S : World → Prop} {fuel : Nat} {listed : Array Bool}

theorem Wp_px {id : Nat} {l : List Oper} (S : World → Prop) (N : Nat) (hN : l.toArray.size = N) (hm : P.follows .mixedOrders = true) (hS : S w.drew) (h : Px P n l.toArray S Q N (Array.replicate N false) env w.drew) (hnd : l.all ndB = true := by rfl) : Wp P n (.region id l.toArray true) Q env w := fun a r => by
  have h1 := h a r hS
  subst hN
  have h2 : (Code.region id l.toArray true).wpIn (Fw Dfs.ro) 0 P (fun e a w => match e with | .normal => Lf n (Qs Q) .normal a w | _ => False) a w := wpIn_draw hm letsOutN (by simpa using hnd) (wpAny_of_held _ _ _ _ h1)
  refine Code.wpIn_mono (fun e a' w' hq => ?_) h2
  cases e <;> first | exact hq.elim | (obtain ⟨env', r', e2, hsub, q⟩ := hq; exact ⟨e2, ⟨r'.size, r'.defers, fun k v hk => r'.get k v (hsub k v hk)⟩, q⟩)

theorem Px_str (S' : World → Prop) (hSS : ∀ w, S' w → S w) (hS : S' w) (h : Px P n ops S' Q fuel listed env w) : Px P n ops S Q fuel listed env w := fun a r _ => wpAnyH_mono hSS _ _ _ _ (h a r hS)
theorem Px_pl (pl : List (Bool × Nat)) (hs : Region.noSelect ops = true) (hB : planB .any ops pl listed = true) (hlen : pl.length = fuel) (h : Pl P n ops S (Qs Q) pl env w) : Px P n ops S Q fuel listed env w := fun a r hS => by
  subst hlen
  exact Pl_sound hs pl listed env w a hB r hS h
theorem Px_y {i d : Nat} {o : Oper} {v : Value} (ho : ops[i]? = some o) (hr : rdyB ops listed i = true) (hw : Wtd n env ops o true) (hd : o.dst = some d) (hn : Nat.blt d n = true) (hy : Yld P n env S o v) (h : Px P n ops S Q fuel (listed.setIfInBounds i true) ((d, v) :: env) w) :
    Px P n ops S Q (fuel + 1) listed env w := fun a r hS => by
  simp only [rdyB, Bool.and_eq_true] at hr
  obtain ⟨⟨h1, h2⟩, h3⟩ := hr
  have r' := r.put hn v
  rw [← hd] at r'
  exact wpAnyH_take (v := v) ho h3 h2 h1 (fun _ _ _ hf => hf) (.inl ⟨hw a r, fun w' hS' => hy a r w' hS'⟩) hS (h _ r' hS)
theorem Px_s {i d : Nat} {o : Oper} (ho : ops[i]? = some o) (hr : rdyB ops listed i = true) (hw : Wtd n env ops o false) (hd : o.dst = some d) (hn : Nat.blt d n = true) (h : Px P n ops S Q fuel (listed.setIfInBounds i true) ((d, undef) :: env) w) :
    Px P n ops S Q (fuel + 1) listed env w := fun a r hS => by
  simp only [rdyB, Bool.and_eq_true] at hr
  obtain ⟨⟨h1, h2⟩, h3⟩ := hr
  have r' := r.put hn undef
  rw [← hd] at r'
  exact wpAnyH_take (v := undef) ho h3 h2 h1 (fun _ _ _ hf => hf) (.inr ⟨hw a r, rfl⟩) hS (h _ r' hS)
theorem Px_act {i : Nat} {o : Oper} {a : Act} (ho : ops[i]? = some o) (hw : Wtd n env ops o true) (r : Rep n env a) (h : Act1 P n env w o (fun env' w' => S w' ∧ Px P n ops S Q fuel (listed.setIfInBounds i true) env' w')) :
    wpOp P ops (fun e a w => match e with | .normal => Lf n (Qs Q) .normal a w | _ => False) i (fun a' w' => S w' ∧ wpAnyH P .any ops (fun e a w => match e with | .normal => Lf n (Qs Q) .normal a w | _ => False) S fuel (listed.setIfInBounds i true) a' w') a w := by
  unfold wpOp
  simp only [ho]
  rw [if_pos (hw a r)]
  exact .inl (wp_noFalse (Oper.wp_mono (fun a' w' ⟨env', r', hS', hl⟩ => ⟨hS', hl a' r' hS'⟩) (h a r)))
theorem Px_a {i : Nat} {o : Oper} (hr : Region.ready .any ops listed = [i]) (ho : ops[i]? = some o) (hw : Wtd n env ops o true) (h : Act1 P n env w o (fun env' w' => S w' ∧ Px P n ops S Q fuel (listed.setIfInBounds i true) env' w')) : Px P n ops S Q (fuel + 1) listed env w := fun a r hS => by
  refine wpAnyH_all hr (by simp) fun j hj => ?_
  obtain rfl : j = i := by simpa using hj
  exact Px_act ho hw r h
theorem Px_a2 {i j : Nat} {o o' : Oper} (hr : Region.ready .any ops listed = [i, j]) (ho : ops[i]? = some o) (hw : Wtd n env ops o true) (ho' : ops[j]? = some o') (hw' : Wtd n env ops o' true)
    (h : Act1 P n env w o (fun env' w' => S w' ∧ Px P n ops S Q fuel (listed.setIfInBounds i true) env' w')) (h' : Act1 P n env w o' (fun env' w' => S w' ∧ Px P n ops S Q fuel (listed.setIfInBounds j true) env' w')) : Px P n ops S Q (fuel + 1) listed env w := fun a r hS => by
  refine wpAnyH_all hr (by simp) fun k hk => ?_
  simp only [List.mem_cons, List.not_mem_nil, or_false] at hk
  rcases hk with rfl | rfl
  · exact Px_act ho hw r h
  · exact Px_act ho' hw' r h'
theorem Px_done (hr : Region.ready .any ops listed = []) (h : Q .normal env w) : Px P n ops S Q fuel listed env w := fun _ r _ => wpAnyH_done hr ⟨env, r, env, fun _ _ h => h, h⟩ _
end
end Go.Proofs.YtngofknckkiboaaGreatDoor

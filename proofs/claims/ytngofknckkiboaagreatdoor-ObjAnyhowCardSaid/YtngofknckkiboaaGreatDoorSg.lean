/- Regions that draw their order, step by step, whose last operation changes what the others looked at; two or three acting operations may come in any order. -/
import Derived.Test.YtngofknckkiboaaGreatDoorSf
namespace Go.Proofs.YtngofknckkiboaaGreatDoor

theorem wpAnyF_mono {P : Program} {ops : Array Oper} {Q : Exit → Act → World → Prop} {S S' : World → Prop} {f : Nat} (hS : ∀ w, S' w → S w) : ∀ (fuel : Nat) (listed : Array Bool) (a : Act) (w : World), wpAnyF P .any ops Q S' f fuel listed a w → wpAnyF P .any ops Q S f fuel listed a w
  | 0, _, _, _, h => h
  | fuel + 1, _, _, _, h => ⟨h.1, fun i hi => wpOp_mono (fun a' w' h' => ⟨fun hf => hS _ (h'.1 hf), wpAnyF_mono hS fuel _ a' w' h'.2⟩) (h.2 i hi)⟩

def Pf [Dfs] (P : Program) (n : Nat) (ops : Array Oper) (f : Nat) (S : World → Prop) (Q : EQ) (fuel : Nat) (listed : Array Bool) (env : Env) (w : World) : Prop :=
  ∀ a, Rep n env a → ClosedL .any ops listed → finB .any ops f = true → S w → wpAnyF P .any ops (fun e a w => match e with | .normal => Lf n Q .normal a w | _ => False) S f fuel listed a w
def rdyF (ops : Array Oper) (f : Nat) (listed : Array Bool) (i : Nat) : Bool := (Region.ready .any ops listed).contains i && Region.free .any ops listed i && Region.noSelect ops && (i != f)

section
variable [Dfs] {P : Program} {n : Nat} {Q : EQ} {env : Env} {w : World} {ops : Array Oper} {S : World → Prop} {fuel f : Nat} {listed : Array Bool}
theorem Wp_pf {id : Nat} {l : List Oper} (S : World → Prop) (N f : Nat) (hN : l.toArray.size = N) (hfin : finB .any l.toArray f = true) (hm : P.follows .mixedOrders = true) (hS : S w.drew) (h : Pf P n l.toArray f S Q N (Array.replicate N false) env w.drew) (hnd : l.all ndB = true := by rfl) : Wp P n (.region id l.toArray true) Q env w := fun a r => by
  have h1 := h a r (closed_none _) hfin hS
  subst hN
  have h2 : (Code.region id l.toArray true).wpIn (Fw Dfs.ro) 0 P (fun e a w => match e with | .normal => Lf n Q .normal a w | _ => False) a w := wpIn_draw hm letsOutN (by simpa using hnd) (wpAny_of_F _ _ _ _ h1)
  refine Code.wpIn_mono (fun e a' w' hq => ?_) h2
  cases e <;> first | exact hq.elim | exact hq
theorem Pf_str (S' : World → Prop) (hSS : ∀ w, S' w → S w) (hS : S' w) (h : Pf P n ops f S' Q fuel listed env w) : Pf P n ops f S Q fuel listed env w := fun a r hc hf _ => wpAnyF_mono hSS _ _ _ _ (h a r hc hf hS)
theorem Pf_y {i d : Nat} {o : Oper} {v : Value} (ho : ops[i]? = some o) (hr : rdyF ops f listed i = true) (hw : Wtd n env ops o true) (hd : o.dst = some d) (hn : Nat.blt d n = true) (hy : Yld P n env S o v) (h : Pf P n ops f S Q fuel (listed.setIfInBounds i true) ((d, v) :: env) w) :
    Pf P n ops f S Q (fuel + 1) listed env w := fun a r hc hf hS => by
  simp only [rdyF, Bool.and_eq_true, bne_iff_ne] at hr
  obtain ⟨⟨⟨h1, h2⟩, h3⟩, h4⟩ := hr
  have hr' : i ∈ Region.ready .any ops listed := by simpa using h1
  have r' := r.put hn v
  rw [← hd] at r'
  exact wpAnyF_first (v := v) hf h4 ho (Region.noSelect_spec h3) (fun _ _ _ hf => hf) _ listed a w hc (Region.free_spec ho h2) hr' (.inl ⟨hw a r, fun w' hS' => hy a r w' hS'⟩) hS (h _ r' (closed_set hc hr') hf hS)
theorem Pf_s {i d : Nat} {o : Oper} (ho : ops[i]? = some o) (hr : rdyF ops f listed i = true) (hw : Wtd n env ops o false) (hd : o.dst = some d) (hn : Nat.blt d n = true) (h : Pf P n ops f S Q fuel (listed.setIfInBounds i true) ((d, undef) :: env) w) :
    Pf P n ops f S Q (fuel + 1) listed env w := fun a r hc hf hS => by
  simp only [rdyF, Bool.and_eq_true, bne_iff_ne] at hr
  obtain ⟨⟨⟨h1, h2⟩, h3⟩, h4⟩ := hr
  have hr' : i ∈ Region.ready .any ops listed := by simpa using h1
  have r' := r.put hn undef
  rw [← hd] at r'
  exact wpAnyF_first (v := undef) hf h4 ho (Region.noSelect_spec h3) (fun _ _ _ hf => hf) _ listed a w hc (Region.free_spec ho h2) hr' (.inr ⟨hw a r, rfl⟩) hS (h _ r' (closed_set hc hr') hf hS)
theorem Pf_act {i : Nat} {o : Oper} {a : Act} (hr : i ∈ Region.ready .any ops listed) (hc : ClosedL .any ops listed) (hf : finB .any ops f = true) (ho : ops[i]? = some o) (hw : Wtd n env ops o true) (r : Rep n env a) (h : Act1 P n env w o (fun env' w' => S w' ∧ Pf P n ops f S Q fuel (listed.setIfInBounds i true) env' w')) :
    wpOp P ops (fun e a w => match e with | .normal => Lf n Q .normal a w | _ => False) i (fun a' w' => (i ≠ f → S w') ∧ wpAnyF P .any ops (fun e a w => match e with | .normal => Lf n Q .normal a w | _ => False) S f fuel (listed.setIfInBounds i true) a' w') a w := by
  unfold wpOp
  simp only [ho]
  rw [if_pos (hw a r)]
  exact .inl (wp_noFalse (Oper.wp_mono (fun a' w' ⟨env', r', hS', hl⟩ => ⟨fun _ => hS', hl a' r' (closed_set hc hr) hf hS'⟩) (h a r)))
theorem Pf_a {i : Nat} {o : Oper} (hr : Region.ready .any ops listed = [i]) (ho : ops[i]? = some o) (hw : Wtd n env ops o true) (h : Act1 P n env w o (fun env' w' => S w' ∧ Pf P n ops f S Q fuel (listed.setIfInBounds i true) env' w')) : Pf P n ops f S Q (fuel + 1) listed env w := fun a r hc hf hS => by
  refine ⟨fun h0 => (by rw [hr] at h0; cases h0), fun j hj => ?_⟩
  have hj' := hj
  rw [hr] at hj'
  obtain rfl : j = i := by simpa using hj'
  exact Pf_act hj hc hf ho hw r h
theorem Pf_a2 {i j : Nat} {o o' : Oper} (hr : Region.ready .any ops listed = [i, j]) (ho : ops[i]? = some o) (hw : Wtd n env ops o true) (ho' : ops[j]? = some o') (hw' : Wtd n env ops o' true)
    (h : Act1 P n env w o (fun env' w' => S w' ∧ Pf P n ops f S Q fuel (listed.setIfInBounds i true) env' w')) (h' : Act1 P n env w o' (fun env' w' => S w' ∧ Pf P n ops f S Q fuel (listed.setIfInBounds j true) env' w')) : Pf P n ops f S Q (fuel + 1) listed env w := fun a r hc hf hS => by
  refine ⟨fun h0 => (by rw [hr] at h0; cases h0), fun k hk => ?_⟩
  have hk' := hk
  rw [hr] at hk'
  simp only [List.mem_cons, List.not_mem_nil, or_false] at hk'
  rcases hk' with rfl | rfl
  · exact Pf_act hk hc hf ho hw r h
  · exact Pf_act hk hc hf ho' hw' r h'
theorem Pf_a3 {i j l : Nat} {o o' o'' : Oper} (hr : Region.ready .any ops listed = [i, j, l]) (ho : ops[i]? = some o) (hw : Wtd n env ops o true) (ho' : ops[j]? = some o') (hw' : Wtd n env ops o' true) (ho'' : ops[l]? = some o'') (hw'' : Wtd n env ops o'' true)
    (h : Act1 P n env w o (fun env' w' => S w' ∧ Pf P n ops f S Q fuel (listed.setIfInBounds i true) env' w')) (h' : Act1 P n env w o' (fun env' w' => S w' ∧ Pf P n ops f S Q fuel (listed.setIfInBounds j true) env' w'))
    (h'' : Act1 P n env w o'' (fun env' w' => S w' ∧ Pf P n ops f S Q fuel (listed.setIfInBounds l true) env' w')) : Pf P n ops f S Q (fuel + 1) listed env w := fun a r hc hf hS => by
  refine ⟨fun h0 => (by rw [hr] at h0; cases h0), fun k hk => ?_⟩
  have hk' := hk
  rw [hr] at hk'
  simp only [List.mem_cons, List.not_mem_nil, or_false] at hk'
  rcases hk' with rfl | rfl | rfl
  · exact Pf_act hk hc hf ho hw r h
  · exact Pf_act hk hc hf ho' hw' r h'
  · exact Pf_act hk hc hf ho'' hw'' r h''
/-- The last operation. -/
theorem Pf_fin {o : Oper} (hr : Region.ready .any ops listed = [f]) (hr2 : Region.ready .any ops (listed.setIfInBounds f true) = []) (ho : ops[f]? = some o) (hw : Wtd n env ops o true) (h : Act1 P n env w o (fun env' w' => Q .normal env' w')) : Pf P n ops f S Q (fuel + 1) listed env w := fun a r hc hf hS => by
  refine ⟨fun h0 => (by rw [hr] at h0; cases h0), fun j hj => ?_⟩
  rw [hr] at hj
  obtain rfl : j = f := by simpa using hj
  unfold wpOp
  simp only [ho]
  rw [if_pos (hw a r)]
  refine .inl (wp_noFalse (Oper.wp_mono (fun a' w' ⟨env', r', hl⟩ => ⟨fun h => absurd rfl h, ?_⟩) (h a r)))
  cases fuel with
  | zero => exact ⟨hr2, env', r', hl⟩
  | succ fuel => exact ⟨fun _ => ⟨env', r', hl⟩, by rw [hr2]; simp⟩
end
end Go.Proofs.YtngofknckkiboaaGreatDoor

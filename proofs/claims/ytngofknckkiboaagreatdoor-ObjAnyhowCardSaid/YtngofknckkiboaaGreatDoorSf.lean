/- A region that draws its order whose last operation changes what the others looked at: all others come before it. -/
import Derived.Test.YtngofknckkiboaaGreatDoorSq
namespace Go.Proofs.YtngofknckkiboaaGreatDoor

def wpAnyF (P : Program) (md : Region.Mode) (ops : Array Oper) (Q : Exit → Act → World → Prop) (S : World → Prop) (f : Nat) : Nat → Array Bool → Act → World → Prop
  | 0, listed, a, w => Region.ready md ops listed = [] ∧ Q .normal a w
  | fuel + 1, listed, a, w => (Region.ready md ops listed = [] → Q .normal a w) ∧
    ∀ i ∈ Region.ready md ops listed, wpOp P ops Q i (fun a' w' => (i ≠ f → S w') ∧ wpAnyF P md ops Q S f fuel (listed.setIfInBounds i true) a' w') a w

def ClosedL (md : Region.Mode) (ops : Array Oper) (listed : Array Bool) : Prop := ∀ k o, ops[k]? = some o → listed.getD k false = true → ∀ e ∈ o.after, Region.binds md e = true → listed.getD e.on false = true

section
variable [Dfs] {P : Program} {ops : Array Oper} {Q : Exit → Act → World → Prop} {md : Region.Mode} {S : World → Prop} {f : Nat}

omit [Dfs] in
theorem closed_set {listed : Array Bool} {i : Nat} (h : ClosedL md ops listed) (hi : i ∈ Region.ready md ops listed) : ClosedL md ops (listed.setIfInBounds i true) := fun k o ho hk e he hb => by
  apply getD_set_true
  by_cases hik : i = k
  · subst hik
    obtain ⟨_, o', ho', hall⟩ := mem_ready.1 hi
    rw [ho] at ho'
    cases ho'
    exact hall e he hb
  · rw [getD_set_ne false hik] at hk
    exact h k o ho hk e he hb
omit [Dfs] in
theorem closed_none (n : Nat) : ClosedL md ops (Array.replicate n false) := fun k o _ hk => by
  exfalso
  rw [Array.getD_eq_getD_getElem?] at hk
  by_cases h : k < n
  · simp [h] at hk
  · simp [h] at hk

/-- Every operation of the list is marked when it comes up. -/
def reachB (md : Region.Mode) (ops : Array Oper) : List Nat → List Nat → Bool
  | [], _ => true
  | k :: ks, m => m.contains k && reachB md ops ks (match ops[k]? with | some o => (o.after.toList.filter (Region.binds md)).map (·.on) ++ m | none => m)
omit [Dfs] in
theorem reach_spec {listed : Array Bool} (hc : ClosedL md ops listed) (hf : f ∈ Region.ready md ops listed) : ∀ (ks m : List Nat), reachB md ops ks m = true → (∀ x ∈ m, x = f ∨ listed.getD x false = true) → ∀ k ∈ ks, k = f ∨ listed.getD k false = true
  | [], _, _, _, _, hk => by cases hk
  | k :: ks, m, h, hm, x, hx => by
    simp only [reachB, Bool.and_eq_true, List.contains_iff_mem] at h
    have hk := hm k h.1
    rcases List.mem_cons.1 hx with rfl | hx
    · exact hk
    refine reach_spec hc hf ks _ h.2 (fun y hy => ?_) x hx
    cases ho : ops[k]? with
    | none => rw [ho] at hy; exact hm y hy
    | some o =>
      rw [ho] at hy
      simp only [List.mem_append, List.mem_map, List.mem_filter] at hy
      rcases hy with ⟨e, ⟨he, hb⟩, rfl⟩ | hy
      · right
        rcases hk with rfl | hk
        · obtain ⟨_, o', ho', hall⟩ := mem_ready.1 hf
          rw [ho] at ho'
          cases ho'
          exact hall e (by simpa using he) hb
        · exact hc k o ho hk e (by simpa using he) hb
      · exact hm y hy
def finB (md : Region.Mode) (ops : Array Oper) (f : Nat) : Bool := reachB md ops (List.range ops.size).reverse [f]

omit [Dfs] in
theorem wpAnyF_first (hfin : finB md ops f = true) {i : Nat} {oi : Oper} {v : Value} (hif : i ≠ f) (hi : ops[i]? = some oi) (hsel : ∀ (j : Nat) (o : Oper) cs b, ops[j]? = some o → o.op ≠ .select cs b)
    (hQ : ∀ c a w, Q (.panic c) (a.put oi.dst v) w → Q (.panic c) a w) : ∀ (fuel : Nat) (listed : Array Bool) (a : Act) (w : World), ClosedL md ops listed →
      (∀ j oj, ops[j]? = some oj → j ≠ i → listed.getD j true = false → (∀ e ∈ oj.after, Region.binds md e = true → e.on ≠ i) → oi.apart ops oj = true) →
      i ∈ Region.ready md ops listed → YieldsIf P ops S oi v a → S w →
      wpAnyF P md ops Q S f fuel (listed.setIfInBounds i true) (a.put oi.dst v) w → wpAnyF P md ops Q S f (fuel + 1) listed a w
  | 0, listed, a, w, _, _, hr, hy, hS, H => by
    refine ⟨fun h => (by rw [h] at hr; cases hr), fun j hj => ?_⟩
    rcases Decidable.em (j = i) with rfl | hji
    · exact hy.wpOp hi hS ⟨fun _ => hS, H⟩
    · exact absurd (ready_mono hj hji) (by rw [H.1]; exact List.not_mem_nil)
  | fuel + 1, listed, a, w, hc, hfree, hr, hy, hS, H => by
    refine ⟨fun h => (by rw [h] at hr; cases hr), fun j hj => ?_⟩
    rcases Decidable.em (j = i) with rfl | hji
    · exact hy.wpOp hi hS ⟨fun _ => hS, H⟩
    obtain ⟨hjun, oj, hoj, hall⟩ := mem_ready.1 hj
    have h0 := (mem_ready.1 hr).1
    have hnl : listed.getD i false = true → False := fun h1 => by
      rcases Nat.lt_or_ge i listed.size with h' | h'
      · simp [h'] at h0 h1; rw [h0] at h1; cases h1
      · simp [Array.getElem?_eq_none h'] at h1
    have hjf : j ≠ f := fun e => by
      subst e
      have hlt : i < ops.size := by
        rcases Nat.lt_or_ge i ops.size with h | h
        · exact h
        · rw [Array.getElem?_eq_none h] at hi; cases hi
      rcases reach_spec hc hj _ _ hfin (fun x hx => .inl (by simpa using hx)) i (by simpa using hlt) with h | h
      · exact hif h
      · exact hnl h
    have hnot : ∀ e ∈ oj.after, Region.binds md e = true → e.on ≠ i := fun e he hb heq => hnl (heq ▸ hall e he hb)
    have h2 := wpOp_putIf hoj (hfree j oj hoj hji hjun hnot) (fun cs b => hsel i oi cs b hi) (fun cs b => hsel j oj cs b hoj) hQ hy (H.2 j (ready_mono hj hji))
    refine wpOp_mono (fun a' w' h3 => ?_) h2
    have hS' := h3.2.1 hjf
    refine ⟨fun _ => hS', wpAnyF_first hfin hif hi hsel hQ fuel (listed.setIfInBounds j true) a' w' (closed_set hc hj) (fun k ok hk hki hun hno => ?_) (ready_mono hr (Ne.symm hji)) h3.1 hS' ?_⟩
    · refine hfree k ok hk hki ?_ hno
      rcases Decidable.em (j = k) with rfl | hjk
      · exact hjun
      · rwa [getD_set_ne true hjk] at hun
    · rw [Array.setIfInBounds_comm _ _ hji]
      exact h3.2.2
omit [Dfs] in
theorem wpAny_of_F : ∀ (fuel : Nat) (listed : Array Bool) (a : Act) (w : World), wpAnyF P md ops Q S f fuel listed a w → wpAny P md ops Q fuel listed a w
  | 0, _, _, _, h => h
  | fuel + 1, _, _, _, h => ⟨h.1, fun i hi => wpOp_mono (fun a' w' h' => wpAny_of_F fuel _ a' w' h'.2) (h.2 i hi)⟩
end

/-- What the last operation leaves. -/
def FinQ [Dfs] (P : Program) (n : Nat) (ops : Array Oper) (f : Nat) (Q : EQ) : EQ := fun e env w => e = .normal ∧ ∃ o, ops[f]? = some o ∧ Wtd n env ops o true ∧ Act1 P n env w o (fun env' w' => Q .normal env' w')

section
variable [Dfs] {P : Program} {n : Nat} {Q : EQ} {env : Env} {w : World} {ops : Array Oper} {S : World → Prop} {f : Nat}
theorem Fin_a {o : Oper} (ho : ops[f]? = some o) (hw : Wtd n env ops o true) (h : Act1 P n env w o (fun env' w' => Q .normal env' w')) : FinQ P n ops f Q .normal env w := ⟨rfl, o, ho, hw, h⟩

theorem Plf_sound (hs : Region.noSelect ops = true) (hfin : finB .any ops f = true) : ∀ (l : List (Bool × Nat)) (listed : Array Bool) (env : Env) (w : World) (a : Act), ClosedL .any ops listed → planB .any ops (l ++ [(false, f)]) listed = true → (∀ x ∈ l, x.2 ≠ f) → Rep n env a → S w →
    Pl P n ops S (Qs (FinQ P n ops f Q)) l env w → wpAnyF P .any ops (fun e a w => match e with | .normal => Lf n Q .normal a w | _ => False) S f (l.length + 1) listed a w
  | [], listed, env, w, a, hc, hB, _, r, hS, h => by
    simp only [List.nil_append, planB, Bool.and_eq_true, beq_iff_eq] at hB
    obtain ⟨e', hsub, _, o, ho, hw, h⟩ := h
    have r' : Rep n e' a := ⟨r.size, r.defers, fun k v hk => r.get k v (hsub k v hk)⟩
    refine ⟨fun h0 => (by rw [hB.1] at h0; cases h0), fun j hj => ?_⟩
    obtain rfl : j = f := by rw [hB.1] at hj; simpa using hj
    unfold wpOp
    simp only [ho]
    rw [if_pos (hw a r')]
    refine .inl (wp_noFalse (Oper.wp_mono (fun a' w' ⟨env', r', hl⟩ => ⟨fun h => absurd rfl h, ?_, ⟨env', r', hl⟩⟩) (h a r')))
    simpa using hB.2
  | (true, i) :: l, listed, env, w, a, hc, hB, hne, r, hS, h => by
    simp only [List.cons_append, planB, Bool.and_eq_true] at hB
    obtain ⟨⟨h1, h2⟩, h3⟩ := hB
    obtain ⟨o, ho, hd, h⟩ := h
    have hr : i ∈ Region.ready .any ops listed := by simpa using h1
    rcases h with ⟨hw, v, hy, h⟩ | ⟨hw, h⟩
    · exact wpAnyF_first (v := v) hfin (hne (true, i) (by simp)) ho (Region.noSelect_spec hs) (fun _ _ _ hf => hf) _ listed a w hc (Region.free_spec ho h2) hr (.inl ⟨hw a r, fun w' hS' => hy a r w' hS'⟩) hS
        (Plf_sound hs hfin l _ _ w _ (closed_set hc hr) h3 (fun x hx => hne x (by simp [hx])) (r.dst hd v) hS h)
    · exact wpAnyF_first (v := undef) hfin (hne (true, i) (by simp)) ho (Region.noSelect_spec hs) (fun _ _ _ hf => hf) _ listed a w hc (Region.free_spec ho h2) hr (.inr ⟨hw a r, rfl⟩) hS
        (Plf_sound hs hfin l _ _ w _ (closed_set hc hr) h3 (fun x hx => hne x (by simp [hx])) (r.dst hd undef) hS h)
  | (false, i) :: l, listed, env, w, a, hc, hB, hne, r, hS, h => by
    simp only [List.cons_append, planB, Bool.and_eq_true, beq_iff_eq] at hB
    obtain ⟨h1, h3⟩ := hB
    obtain ⟨o, ho, hd, h⟩ := h
    have hr : i ∈ Region.ready .any ops listed := by rw [h1]; simp
    refine ⟨fun h0 => (by rw [h1] at h0; cases h0), fun j hj => ?_⟩
    obtain rfl : j = i := by rw [h1] at hj; simpa using hj
    unfold wpOp
    simp only [ho]
    rcases h with ⟨hw, h⟩ | ⟨hw, h⟩
    · rw [if_pos (hw a r)]
      exact .inl (wp_noFalse (Oper.wp_mono (fun a' w' ⟨env', r', hS', hl⟩ => ⟨fun _ => hS', Plf_sound hs hfin l _ env' w' a' (closed_set hc hr) h3 (fun x hx => hne x (by simp [hx])) r' hS' hl⟩) (h a r)))
    · rw [if_neg (by rw [hw a r]; decide)]
      exact ⟨fun _ => hS, Plf_sound hs hfin l _ _ w _ (closed_set hc hr) h3 (fun x hx => hne x (by simp [hx])) (r.dst hd undef) hS h⟩

theorem Wp_planF {id : Nat} {l : List Oper} (S : World → Prop) (pl : List (Bool × Nat)) (f : Nat) (hm : P.follows .mixedOrders = true) (hs : Region.noSelect l.toArray = true)
    (hB : planB .any l.toArray (pl ++ [(false, f)]) (Array.replicate l.toArray.size false) = true) (hfin : (finB .any l.toArray f && pl.all (fun x => x.2 != f)) = true) (hlen : pl.length + 1 = l.toArray.size) (hS : S w.drew)
    (h : Pl P n l.toArray S (Qs (FinQ P n l.toArray f Q)) pl env w.drew) (hnd : l.all ndB = true := by rfl) : Wp P n (.region id l.toArray true) Q env w := fun a r => by
  simp only [Bool.and_eq_true, List.all_eq_true, bne_iff_ne] at hfin
  have h1 := Plf_sound (P := P) (n := n) (Q := Q) (S := S) hs hfin.1 pl _ env w.drew a (closed_none _) hB hfin.2 r hS h
  rw [hlen] at h1
  have h2 : (Code.region id l.toArray true).wpIn (Fw Dfs.ro) 0 P (fun e a w => match e with | .normal => Lf n Q .normal a w | _ => False) a w := wpIn_draw hm letsOutN (by simpa using hnd) (wpAny_of_F _ _ _ _ h1)
  refine Code.wpIn_mono (fun e a' w' hq => ?_) h2
  cases e <;> first | exact hq.elim | exact hq
end
end Go.Proofs.YtngofknckkiboaaGreatDoor

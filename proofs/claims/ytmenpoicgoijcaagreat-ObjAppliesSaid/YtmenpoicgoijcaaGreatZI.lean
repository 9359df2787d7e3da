/- Walks printed by gen2.py out of our own specifications: what the functions named below do. -/
import Derived.Test.YtmenpoicgoijcaaGreatSc
import Derived.Test.YtmenpoicgoijcaaGreatZV
import Derived.Test.YtmenpoicgoijcaaGreatZ11
set_option linter.unusedSimpArgs false
set_option linter.unusedVariables false
namespace Go.Proofs.YtmenpoicgoijcaaGreat
open Go.RowKit
theorem mget_cons {α β : Type} [DecidableEq α] (e : α × β) (r : List (α × β)) (k : α) : mget (e :: r) k = if e.1 = k then some e.2 else mget r k := by
  unfold mget; rw [List.find?_cons]
  by_cases h : e.1 = k
  · rw [if_pos h]; simp [h]
  · rw [if_neg h]; simp [h]
theorem mset_keys {α β : Type} [DecidableEq α] : ∀ (m : List (α × β)) (k : α) (v : β), (mset m k v).map (·.1) = if k ∈ m.map (·.1) then m.map (·.1) else m.map (·.1) ++ [k]
  | [], k, v => by simp [mset]
  | e :: r, k, v => by
    unfold mset
    split
    · rename_i h; rw [if_pos (by simp [h])]; simp [h]
    · rename_i h
      rw [List.map_cons, mset_keys r k v, List.map_cons]
      by_cases q : k ∈ r.map (·.1)
      · rw [if_pos q, if_pos (by simp [q])]
      · rw [if_neg q, if_neg (by rw [List.mem_cons]; rintro (g | g); exact h g.symm; exact q g)]; rfl
theorem mset_nd {α β : Type} [DecidableEq α] {m : List (α × β)} (h : (m.map (·.1)).Nodup) (k : α) (v : β) : ((mset m k v).map (·.1)).Nodup := by
  rw [mset_keys]; split
  · exact h
  · rename_i q
    rw [List.nodup_append]
    refine ⟨h, by simp, fun a ha b hb e => ?_⟩
    simp at hb; subst hb; subst e; exact q ha
theorem mget_mem {α β : Type} [DecidableEq α] : ∀ {m : List (α × β)}, (m.map (·.1)).Nodup → ∀ (k : α) (v : β), (k, v) ∈ m ↔ mget m k = some v
  | [], _, k, v => by simp [mget]
  | e :: r, h, k, v => by
    rw [List.map_cons, List.nodup_cons] at h
    rw [mget_cons, List.mem_cons]
    by_cases q : e.1 = k
    · rw [if_pos q]
      constructor
      · rintro (g | g)
        · rw [← g]
        · exact absurd (List.mem_map.2 ⟨_, g, q.symm⟩) h.1
      · intro g
        injection g with g
        exact .inl (by rw [← q, ← g])
    · rw [if_neg q, ← mget_mem h.2 k v]
      constructor
      · rintro (g | g)
        · exact absurd (by rw [← g]) q
        · exact g
      · exact .inr
def zPut : PutM := ⟨⟨⟨0, 0⟩, 0⟩, [], 0, ⟨0, 0⟩⟩
def pstep (m : List (List UInt8 × PutM)) (p : PutM) : List (List UInt8 × PutM) := match mget m p.field with | none => mset m p.field p | some q => if mlater_m q p < 0 then mset m p.field p else m
def stepP (o : Option PutM) (p : PutM) : Option PutM := match o with | none => some p | some q => if mlater_m q p < 0 then some p else some q
def stepR (o : Option PutM) (p : PutM) : Option PutM := match o with | none => some p | some q => if 0 ≤ r9compare_m p.atF q.atF then some p else some q
theorem pstep_get (m : List (List UInt8 × PutM)) (p : PutM) (f : List UInt8) : mget (pstep m p) f = if p.field = f then stepP (mget m f) p else mget m f := by
  unfold pstep stepP
  by_cases h : p.field = f
  · rw [if_pos h]
    subst h
    cases hg : mget m p.field with
    | none => simp only; rw [mget_mset, if_pos rfl]
    | some q =>
      simp only
      split
      · rw [mget_mset, if_pos rfl]
      · exact hg
  · rw [if_neg h]
    cases hg : mget m p.field with
    | none => simp only; rw [mget_mset, if_neg (fun g => h g.symm)]
    | some q =>
      simp only
      split
      · rw [mget_mset, if_neg (fun g => h g.symm)]
      · rfl
theorem pfold_get (f : List UInt8) : ∀ (l : List PutM) (m : List (List UInt8 × PutM)), mget (l.foldl pstep m) f = (l.filter (fun p => decide (p.field = f))).foldl stepP (mget m f)
  | [], m => rfl
  | p :: l, m => by
    rw [List.foldl_cons, pfold_get f l, pstep_get]
    by_cases h : p.field = f
    · rw [if_pos h, List.filter_cons, if_pos (by simp [h]), List.foldl_cons]
    · rw [if_neg h, List.filter_cons, if_neg (by simp [h])]
theorem pstep_nd {m : List (List UInt8 × PutM)} (h : (m.map (·.1)).Nodup) (p : PutM) : ((pstep m p).map (·.1)).Nodup := by
  unfold pstep
  split
  · exact mset_nd h _ _
  · split
    · exact mset_nd h _ _
    · exact h
theorem pfold_nd : ∀ (l : List PutM) {m : List (List UInt8 × PutM)}, (m.map (·.1)).Nodup → ((l.foldl pstep m).map (·.1)).Nodup
  | [], m, h => h
  | p :: l, m, h => by rw [List.foldl_cons]; exact pfold_nd l (pstep_nd h p)
theorem r9_anti (a b : StampM) : r9compare_m a b ≤ 0 ↔ 0 ≤ r9compare_m b a := by
  rw [← lcompare_eq, ← lcompare_eq]
  unfold lcompare_m
  rw [cmpOr2, cmpOr2, cmpU_eq, cmpU_eq, cmpI_eq, cmpI_eq]
  by_cases h1 : a.time < b.time
  · have : ¬ b.time < a.time := by omega
    simp [h1, this]
  · by_cases h2 : b.time < a.time
    · simp [h1, h2]
    · by_cases h3 : a.origin < b.origin
      · have : ¬ b.origin < a.origin := by omega
        simp [h1, h2, h3, this]
      · by_cases h4 : b.origin < a.origin
        · simp [h1, h2, h3, h4]
        · simp [h1, h2, h3, h4]
theorem later_iff {q p : PutM} (h : tagLt q.tag p.tag = true) : mlater_m q p < 0 ↔ 0 ≤ r9compare_m p.atF q.atF := by
  unfold mlater_m
  rw [cmpOr2, lcompare_eq, icompareTag_eq, ← r9_anti]
  have := (tagCmp_neg q.tag p.tag).2 h
  split <;> omega
theorem fold_PR : ∀ (l : List PutM) (o : Option PutM), (∀ q, o = some q → ∀ p ∈ l, tagLt q.tag p.tag = true) → Rises (l.map (·.tag)) → l.foldl stepP o = l.foldl stepR o
  | [], o, _, _ => rfl
  | p :: l, o, h, hr => by
    have hr' : (p.tag :: l.map (·.tag)).Pairwise (fun a b => tagLt a b = true) := hr
    rw [List.pairwise_cons] at hr'
    have e : stepP o p = stepR o p := by
      unfold stepP stepR
      cases o with
      | none => rfl
      | some q => simp only [later_iff (h q rfl p (by simp))]
    rw [List.foldl_cons, List.foldl_cons, e]
    refine fold_PR l _ (fun q hq x hx => ?_) hr'.2
    have hx' := hr'.1 x.tag (List.mem_map_of_mem hx)
    unfold stepR at hq
    cases o with
    | none => simp only [Option.some.injEq] at hq; subst hq; exact hx'
    | some q0 =>
      simp only at hq
      split at hq
      · simp only [Option.some.injEq] at hq; subst hq; exact hx'
      · simp only [Option.some.injEq] at hq; subst hq; exact h q0 rfl x (by simp [hx])
theorem get_run (s : MapM) (f : List UInt8) : ∀ (fuel : Nat) (b : Bool) (i : Int) (q : PutM), 0 ≤ i → i ≤ s.puts.length → ((s.puts.length : Int) - i).toNat < fuel →
    ∃ b' q', r13get_L1 s f fuel b i q.tag.id.origin q.tag.id.seq q.tag.n q.field q.val q.atF.time q.atF.origin = .inr (b', (s.puts.length : Int), q'.tag.id.origin, q'.tag.id.seq, q'.tag.n, q'.field, q'.val, q'.atF.time, q'.atF.origin) ∧ (if b' = true then some q' else none) = ((s.puts.drop i.toNat).filter (fun p => decide (p.field = f))).foldl stepR (if b = true then some q else none) ∧ (b' = false → q' = q)
  | 0, b, i, q, _, _, h => by omega
  | fuel + 1, b, i, q, h0, h1, h => by
    rw [r13get_L1]
    split
    · rename_i hlt
      rw [ix_drop s.puts h0 hlt]
      by_cases hf : (ix s.puts i).field = f
      · rw [List.filter_cons_of_pos (by simp [hf]), List.foldl_cons]
        by_cases hb : b = true
        · subst hb
          by_cases hc : 0 ≤ r9compare_m (ix s.puts i).atF q.atF
          · rw [if_pos (by unfold r13get_c1; rw [if_pos hf, if_pos rfl]; exact decide_eq_true hc)]
            obtain ⟨b', q', e1, e2, e3⟩ := get_run s f fuel true (i + 1) (ix s.puts i) (by omega) (by omega) (by omega)
            refine ⟨b', q', e1, ?_, fun g => ?_⟩
            · rw [e2]; simp [stepR, hc]
            · exfalso
              rw [g] at e2
              simp only [Bool.false_eq_true, if_false, if_true] at e2
              have : ∀ (l : List PutM) (x : PutM), ∃ y, l.foldl stepR (some x) = some y := by
                intro l
                induction l with
                | nil => intro x; exact ⟨x, rfl⟩
                | cons a l ih => intro x; rw [List.foldl_cons]; unfold stepR; simp only; split <;> exact ih _
              obtain ⟨y, hy⟩ := this (List.filter (fun p => decide (p.field = f)) (s.puts.drop (i + 1).toNat)) (ix s.puts i)
              rw [hy] at e2; cases e2
          · rw [if_neg (by unfold r13get_c1; rw [if_pos hf, if_pos rfl]; simpa using hc)]
            obtain ⟨b', q', e1, e2, e3⟩ := get_run s f fuel true (i + 1) q (by omega) (by omega) (by omega)
            refine ⟨b', q', e1, ?_, e3⟩
            rw [e2]; simp [stepR, hc]
        · have hb' : b = false := by simpa using hb
          subst hb'
          rw [if_pos (by unfold r13get_c1; rw [if_pos hf]; simp)]
          obtain ⟨b', q', e1, e2, e3⟩ := get_run s f fuel true (i + 1) (ix s.puts i) (by omega) (by omega) (by omega)
          refine ⟨b', q', e1, ?_, fun g => ?_⟩
          · rw [e2]; simp [stepR]
          · exfalso
            rw [g] at e2
            simp only [Bool.false_eq_true, if_false, if_true] at e2
            have : ∀ (l : List PutM) (x : PutM), ∃ y, l.foldl stepR (some x) = some y := by
              intro l
              induction l with
              | nil => intro x; exact ⟨x, rfl⟩
              | cons a l ih => intro x; rw [List.foldl_cons]; unfold stepR; simp only; split <;> exact ih _
            obtain ⟨y, hy⟩ := this (List.filter (fun p => decide (p.field = f)) (s.puts.drop (i + 1).toNat)) (ix s.puts i)
            rw [hy] at e2; cases e2
      · rw [List.filter_cons_of_neg (by simp [hf]), if_neg (by unfold r13get_c1; rw [if_neg hf]; simp)]
        exact get_run s f fuel b (i + 1) q (by omega) (by omega) (by omega)
    · have : i = s.puts.length := by omega
      subst this
      rw [List.drop_of_length_le (by omega)]
      exact ⟨b, q, rfl, rfl, fun _ => rfl⟩
theorem r13get_z {s : MapM} (h : r13check_m s = 0) (f : List UInt8) : (r13get_m s f).1 = (((s.puts.filter (fun p => decide (p.field = f))).foldl stepR none).getD zPut).val := by
  obtain ⟨b', q', e1, e2, e3⟩ := get_run s f (((s.puts.length : Int) - (0 : Int)).toNat + 1) false 0 zPut (by omega) (by omega) (by omega)
  unfold r13get_m
  rw [if_pos h]
  have e1' : r13get_L1 s f (((s.puts.length : Int) - (0 : Int)).toNat + 1) false (0 : Int) (0 : Int) (0 : Int) (0 : Int) [] (0 : Int) (0 : Int) (0 : Int) = .inr (b', (s.puts.length : Int), q'.tag.id.origin, q'.tag.id.seq, q'.tag.n, q'.field, q'.val, q'.atF.time, q'.atF.origin) := e1
  rw [e1']
  simp only [Int.toNat_zero, List.drop_zero, Bool.false_eq_true, if_false] at e2
  rw [← e2]
  cases b' with
  | true => rfl
  | false => rw [e3 rfl]; rfl
def itemOf (s : MapM) (f : List UInt8) : ItemM := ⟨f, (r13get_m s f).1⟩
theorem r13items_z (s : MapM) : r13items_m s = if r13check_m s = 0 then ((s.puts.map (·.field)).foldl insS []).map (itemOf s) else [] := by
  unfold r13items_m
  split
  · have key : ∀ (fuel : Nat) (fl : List (List UInt8)) (i : Int), 0 ≤ i → i ≤ s.puts.length → ((s.puts.length : Int) - i).toNat < fuel → r13items_L1 s fuel (fl.map (itemOf s)) i = .inr ((((s.puts.drop i.toNat).map (·.field)).foldl insS fl).map (itemOf s), (s.puts.length : Int)) := by
      intro fuel
      induction fuel with
      | zero => intro fl i _ _ h; omega
      | succ fuel ih =>
        intro fl i h0 h1 h
        rw [r13items_L1]
        split
        · rename_i hi
          have hw := loop_while0 (fl.map (itemOf s)) (fun x => sLt x.field (ix s.puts i).field) (r13items_L2 s (fl.map (itemOf s)) i) (fun fuel j hj => by
            rw [r13items_L2]
            have : (r13items_c2 s (fl.map (itemOf s)) i j = true) ↔ (j < ((fl.map (itemOf s)).length : Int) ∧ sLt (ix (fl.map (itemOf s)) j).field (ix s.puts i).field = true) := by
              unfold r13items_c2 sLt; by_cases hj : j < ((fl.map (itemOf s)).length : Int) <;> simp only [hj, if_true, if_false, true_and, false_and, Bool.false_eq_true]
            simp only [this])
          rw [hw, tw_map]
          simp only [Int.toNat_natCast, List.nil_append]
          have hc : (r13items_c1 s (fl.map (itemOf s)) i ((fl.takeWhile (fun x => sLt (itemOf s x).field (ix s.puts i).field)).length : Int) = true) ↔ (((fl.takeWhile (fun x => sLt x (ix s.puts i).field)).length < fl.length) ∧ fl[(fl.takeWhile (fun x => sLt x (ix s.puts i).field)).length]? = some (ix s.puts i).field) := by
            have e0 : (fun x => sLt (itemOf s x).field (ix s.puts i).field) = (fun x => sLt x (ix s.puts i).field) := rfl
            rw [e0]
            unfold r13items_c1
            by_cases hq : (fl.takeWhile (fun x => sLt x (ix s.puts i).field)).length < fl.length
            · rw [if_pos (by rw [List.length_map]; omega), ix_map (itemOf s) fl (by omega) (by omega), ix_at fl hq, beq_iff_eq, List.getElem?_eq_getElem hq]
              simp [hq, itemOf]
            · rw [if_neg (by rw [List.length_map]; omega)]; simp [hq]
          simp only [hc]
          rw [ix_drop s.puts h0 hi, List.map_cons, List.foldl_cons]
          have e0 : (fun x => sLt (itemOf s x).field (ix s.puts i).field) = (fun x => sLt x (ix s.puts i).field) := rfl
          by_cases hcc : ((fl.takeWhile (fun x => sLt x (ix s.puts i).field)).length < fl.length) ∧ fl[(fl.takeWhile (fun x => sLt x (ix s.puts i).field)).length]? = some (ix s.puts i).field
          · rw [if_pos hcc, ih fl (i + 1) (by omega) (by omega) (by omega)]
            have : insS fl (ix s.puts i).field = fl := by unfold insS; rw [if_pos hcc]
            rw [this]
          · rw [if_neg hcc]
            have : insS fl (ix s.puts i).field = insL sLt fl (ix s.puts i).field := by unfold insS; rw [if_neg hcc]
            have e2 : (fl.map (itemOf s)).take (fl.takeWhile (fun x => sLt (itemOf s x).field (ix s.puts i).field)).length ++ [(⟨(ix s.puts i).field, (r13get_m s (ix s.puts i).field).1⟩ : ItemM)] ++ (fl.map (itemOf s)).drop (fl.takeWhile (fun x => sLt (itemOf s x).field (ix s.puts i).field)).length = (insL sLt fl (ix s.puts i).field).map (itemOf s) := by
              rw [e0, ← List.map_take, ← List.map_drop, take_tw, drop_tw]
              unfold insL
              simp [itemOf]
            rw [e2, ih _ (i + 1) (by omega) (by omega) (by omega), this]
        · have : i = s.puts.length := by omega
          subst this
          rw [List.drop_of_length_le (by omega)]; rfl
    have := key (((s.puts.length : Int) - (0 : Int)).toNat + 1) [] 0 (by omega) (by omega) (by omega)
    simp only [List.map_nil, Int.toNat_zero, List.drop_zero] at this
    rw [this]
  · rfl
theorem mitems_z (s : MapM) : mitems_m s = if mcheck_m s = 0 then sortI ((s.puts.foldl pstep []).map (fun p : List UInt8 × PutM => (⟨p.1, p.2.val⟩ : ItemM))) else [] := by
  unfold mitems_m
  rw [loop_fold0' s.puts pstep (mitems_L1 s) (fun fuel b i _ => by
    rw [mitems_L1]
    have hc : pstep b (ix s.puts i) = if mitems_c1 s i b = true then mset b (ix s.puts i).field (ix s.puts i) else b := by
      unfold pstep mitems_c1
      cases hg : mget b (ix s.puts i).field with
      | none => simp
      | some q => simp
    rw [hc]
    by_cases q : mitems_c1 s i b = true
    · simp [q]
    · simp [q])]
theorem stepR_some : ∀ (l : List PutM) (x : PutM), ∃ y, l.foldl stepR (some x) = some y := by
  intro l
  induction l with
  | nil => intro x; exact ⟨x, rfl⟩
  | cons a l ih => intro x; rw [List.foldl_cons]; unfold stepR; simp only; split <;> exact ih _
theorem items_eq {s : MapM} (hs : MapWf s) : mitems_m s = r13items_m s := by
  rw [mitems_z, r13items_z, mcheck_eq hs]
  split
  · rename_i c1
    have ok := mapOk_of (s := s) (by rw [mcheck_eq hs]; exact c1)
    have hnd : ((s.puts.foldl pstep []).map (·.1)).Nodup := pfold_nd s.puts (by simp)
    have hget : ∀ f, mget (s.puts.foldl pstep []) f = (s.puts.filter (fun p => decide (p.field = f))).foldl stepR none := fun f => by
      rw [pfold_get]
      refine fold_PR _ none (fun q hq => by cases hq) ?_
      have := ok.rp
      unfold Rises at this ⊢
      exact this.sublist (List.filter_sublist.map _)
    have hfl := insS_fold (s.puts.map (·.field)) [] List.Pairwise.nil
    refine strict_ext (fun a b : ItemM => sLt a.field b.field) (fun a b h => sLt_as _ _ h) ?_ ?_ fun x => ?_
    · have := sortI_strict (l := (s.puts.foldl pstep []).map (fun p : List UInt8 × PutM => (⟨p.1, p.2.val⟩ : ItemM))) (by rw [List.map_map]; exact hnd)
      refine List.Pairwise.imp ?_ this
      intro a b h; exact decide_eq_true h
    · rw [List.pairwise_map]; exact hfl.1
    · have hp : (sortI ((s.puts.foldl pstep []).map (fun p : List UInt8 × PutM => (⟨p.1, p.2.val⟩ : ItemM)))).Perm _ := List.mergeSort_perm _ _
      rw [hp.mem_iff, List.mem_map, List.mem_map]
      have hex : ∀ f, (∃ y, (s.puts.filter (fun p => decide (p.field = f))).foldl stepR none = some y) ↔ f ∈ s.puts.map (·.field) := fun f => by
        cases hq : s.puts.filter (fun p => decide (p.field = f)) with
        | nil =>
          constructor
          · rintro ⟨y, hy⟩; cases hy
          · intro hm
            obtain ⟨p, hp1, hp2⟩ := List.mem_map.1 hm
            have : p ∈ s.puts.filter (fun p => decide (p.field = f)) := List.mem_filter.2 ⟨hp1, by simpa using hp2⟩
            rw [hq] at this; cases this
        | cons a l =>
          constructor
          · intro _
            have : a ∈ s.puts.filter (fun p => decide (p.field = f)) := by rw [hq]; simp
            obtain ⟨h1, h2⟩ := List.mem_filter.1 this
            exact List.mem_map.2 ⟨a, h1, by simpa using h2⟩
          · intro _; exact stepR_some l a
      constructor
      · rintro ⟨⟨f, p⟩, hm, rfl⟩
        rw [mget_mem hnd, hget] at hm
        refine ⟨f, (hfl.2 f).2 (.inr ((hex f).1 ⟨p, hm⟩)), ?_⟩
        unfold itemOf
        rw [r13get_z c1, hm]; rfl
      · rintro ⟨f, hf, rfl⟩
        have hf' : f ∈ s.puts.map (·.field) := by
          rcases (hfl.2 f).1 hf with h | h
          · cases h
          · exact h
        obtain ⟨y, hy⟩ := (hex f).2 hf'
        refine ⟨(f, y), (mget_mem hnd f y).2 (by rw [hget]; exact hy), ?_⟩
        unfold itemOf
        rw [r13get_z c1, hy]; rfl
  · rfl
end Go.Proofs.YtmenpoicgoijcaaGreat

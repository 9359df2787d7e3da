/- Walks printed by gen2.py out of our own specifications: what the functions named below do. -/
import Derived.Test.YtmenpoicgoijcaaGreatSc
import Derived.Test.YtmenpoicgoijcaaGreatZS
set_option linter.unusedSimpArgs false
set_option linter.unusedVariables false
namespace Go.Proofs.YtmenpoicgoijcaaGreat
open Go.RowKit
structure MapOk (s : MapM) : Prop where
  lp : s.puts.length ≤ 4096
  lg : s.gone.length ≤ 4096
  rt : s.gone.any onotTag_m = false
  rp : Rises (s.puts.map (·.tag))
  rg : Rises s.gone
  dj : ∀ a ∈ s.puts, a.tag ∉ s.gone
theorem mapOk_of {s : MapM} (h : mcheck_m s = 0) : MapOk s := by
  unfold mcheck_m at h
  split at h
  · cases h
  rename_i c1
  split at h
  · cases h
  rename_i c2
  split at h
  · cases h
  rename_i c3
  rw [mcheck_c1_iff] at c1
  rw [mcheck_c2_iff, containsF_eq, containsF_eq] at c2
  rw [mcheck_c3_iff, mtags_eq, mrise_eq, mrise_eq, strictTag_iff, strictTag_iff] at c3
  have r1 : Rises (s.puts.map (·.tag)) := Classical.byContradiction fun q => c3 (.inl q)
  have r2 : Rises s.gone := Classical.byContradiction fun q => c3 (.inr q)
  obtain ⟨q5, l5⟩ := loop_all0 s.puts (fun p => mright_m p && !decide (p.tag ∈ s.gone)) 3 (mcheck_L1 s) (fun fuel i _ => by
    rw [mcheck_L1]
    split
    · have := mcheck_c4_iff s i
      rw [has_eq r2] at this
      by_cases x1 : mright_m (ix s.puts i) = true <;> by_cases x2 : (ix s.puts i).tag ∈ s.gone <;> simp [this, x1, x2]
    · rfl)
  rw [l5] at h
  refine ⟨by omega, by omega, ?_, r1, r2, fun a ha hm => ?_⟩
  · have : ¬ s.gone.any mnotTag_m = true := fun q => c2 (.inr q)
    have e : mnotTag_m = onotTag_m := rfl
    rw [e] at this; simpa using this
  · by_cases q : s.puts.all (fun p => mright_m p && !decide (p.tag ∈ s.gone)) = true
    · have := List.all_eq_true.1 q a ha
      simp [hm] at this
    · rw [if_neg q] at h; cases h
theorem bsearch_tw {l : List TagM} (h : Rises l) (t : TagM) : bsearch_m l t icompareTag_m = (((l.takeWhile (fun a => tagLt a t)).length : Int), decide (t ∈ l)) := by
  obtain ⟨q, e, h0, h1, h2, h3⟩ := bsearch_spec h t
  rw [e]
  congr 1
  have := tw_of (fun a => tagLt a t) l q.toNat (fun k hk hkl => by
    have := h2 k (by omega) (by omega); rw [ix_at l hkl] at this; exact this) (fun k hk hkl => by
    have := h3 k (by omega) (by omega); rw [ix_at l hkl] at this; exact this) (by omega)
  rw [this]; omega
theorem tw_map {α β : Type} (f : α → β) (p : β → Bool) (l : List α) : ((l.map f).takeWhile p).length = (l.takeWhile (fun x => p (f x))).length := by
  rw [List.takeWhile_map, List.length_map]; rfl
theorem mapply_in (s : MapM) (p : PutM) (hw : ∀ a ∈ s.puts, seqOk a.tag) (hp : seqOk p.tag) : ∀ (fuel : Nat) (acc : List PutM) (i : Int) (u : List PutM) (v : List TagM), 0 ≤ i → i ≤ s.puts.length → (∀ x ∈ s.puts.drop i.toNat, ¬ x.tag = p.tag) → ((s.puts.length : Int) - i).toNat < fuel →
    r13apply_L1 s p fuel acc true i u v = .inr (acc ++ s.puts.drop i.toNat, true, (s.puts.length : Int), u, v)
  | 0, acc, i, u, v, _, _, _, h => by omega
  | fuel + 1, acc, i, u, v, h0, h1, hn, h => by
    rw [r13apply_L1]
    split
    · rename_i hlt
      have hm := ix_memI s.puts h0 hlt
      rw [ix_drop s.puts h0 hlt] at hn ⊢
      have hne : ¬ (ix s.puts i).tag = p.tag := hn _ (by simp)
      rw [if_neg (by rw [r5compareTag_eq (hw _ hm) hp, tagCmp_zero]; exact hne), if_neg (by unfold r13apply_c1; simp)]
      rw [mapply_in s p hw hp fuel _ (i + 1) u v (by omega) (by omega) (fun x hx => hn x (by simp [hx])) (by omega)]
      simp
    · have : i = s.puts.length := by omega
      subst this
      rw [List.drop_of_length_le (by omega)]; simp
theorem mapply_out (s : MapM) (p : PutM) (hw : ∀ a ∈ s.puts, seqOk a.tag) (hp : seqOk p.tag) (hr : Rises (s.puts.map (·.tag))) : ∀ (fuel : Nat) (acc : List PutM) (i : Int) (u : List PutM) (v : List TagM), 0 ≤ i → i ≤ s.puts.length → ((s.puts.length : Int) - i).toNat < fuel →
    r13apply_L1 s p fuel acc false i u v = if p.tag ∈ (s.puts.drop i.toNat).map (·.tag) then .inl (s, 0) else if (s.puts.drop i.toNat).dropWhile (fun x => tagLt x.tag p.tag) = [] then .inr (acc ++ s.puts.drop i.toNat, false, (s.puts.length : Int), u, v) else .inr (acc ++ ((s.puts.drop i.toNat).takeWhile (fun x => tagLt x.tag p.tag) ++ [p] ++ (s.puts.drop i.toNat).dropWhile (fun x => tagLt x.tag p.tag)), true, (s.puts.length : Int), u, v)
  | 0, acc, i, u, v, _, _, h => by omega
  | fuel + 1, acc, i, u, v, h0, h1, h => by
    rw [r13apply_L1]
    split
    · rename_i hlt
      have hm := ix_memI s.puts h0 hlt
      have hr2 : Rises ((s.puts.drop i.toNat).map (·.tag)) := by
        unfold Rises at hr ⊢
        exact hr.sublist ((List.drop_sublist _ _).map _)
      rw [ix_drop s.puts h0 hlt] at hr2 ⊢
      unfold Rises at hr2
      rw [List.map_cons, List.pairwise_cons] at hr2
      rw [r5compareTag_eq (hw _ hm) hp]
      have hc1 : (r13apply_c1 s p acc false i u v = true) ↔ tagLt p.tag (ix s.puts i).tag = true := by
        unfold r13apply_c1
        rw [r5compareTag_eq (hw _ hm) hp]
        have h3 := tagCmp_neg (ix s.puts i).tag p.tag
        have h4 := tagCmp_zero (ix s.puts i).tag p.tag
        rcases tagLt_tri (ix s.puts i).tag p.tag with g | g | g
        · have := h3.2 g
          rw [if_neg (by omega), tagLt_asymm g]
        · have := h4.2 g
          rw [if_neg (by omega), g, tagLt_irrefl]
        · rw [if_pos (by
            have g1 : ¬ tagCmp (ix s.puts i).tag p.tag < 0 := fun q => by have := h3.1 q; rw [tagLt_asymm g] at this; cases this
            have g2 : ¬ tagCmp (ix s.puts i).tag p.tag = 0 := fun q => by have := h4.1 q; rw [this, tagLt_irrefl] at g; cases g
            omega), g]; simp
      by_cases e1 : (ix s.puts i).tag = p.tag
      · rw [if_pos ((tagCmp_zero _ _).2 e1), if_pos (by simp [e1])]
      · rw [if_neg (fun q => e1 ((tagCmp_zero _ _).1 q))]
        by_cases e2 : tagLt p.tag (ix s.puts i).tag = true
        · rw [if_pos (hc1.2 e2)]
          have hrest : ∀ x ∈ s.puts.drop (i + 1).toNat, ¬ x.tag = p.tag := fun x hx q => by
            have h5 := hr2.1 x.tag (List.mem_map_of_mem hx)
            rw [q] at h5
            have := tagLt_trans _ _ _ e2 h5
            rw [tagLt_irrefl] at this; cases this
          have e3 : tagLt (ix s.puts i).tag p.tag = false := tagLt_asymm e2
          rw [mapply_in s p hw hp fuel _ (i + 1) u v (by omega) (by omega) hrest (by omega)]
          rw [if_neg (by
            rw [List.map_cons, List.mem_cons]
            rintro (q | q)
            · exact e1 q.symm
            · obtain ⟨x, hx, hxe⟩ := List.mem_map.1 q
              exact hrest x hx hxe)]
          rw [List.dropWhile_cons, List.takeWhile_cons, e3]
          simp
        · rw [if_neg (fun q => e2 (hc1.1 q))]
          have e3 : tagLt (ix s.puts i).tag p.tag = true := by
            rcases tagLt_tri (ix s.puts i).tag p.tag with g | g | g
            · exact g
            · exact absurd g e1
            · exact absurd g e2
          rw [mapply_out s p hw hp hr fuel _ (i + 1) u v (by omega) (by omega) (by omega)]
          rw [List.dropWhile_cons, List.takeWhile_cons, if_pos e3, if_pos e3, List.map_cons]
          have : (p.tag ∈ (ix s.puts i).tag :: (s.puts.drop (i + 1).toNat).map (·.tag)) ↔ (p.tag ∈ (s.puts.drop (i + 1).toNat).map (·.tag)) := by
            rw [List.mem_cons]
            exact ⟨fun q => q.elim (fun q => absurd q.symm e1) id, .inr⟩
          simp only [this]
          simp
    · have : i = s.puts.length := by omega
      subst this
      rw [List.drop_of_length_le (by omega)]; simp
theorem mapply_eq {s : MapM} (hs : MapWf s) {p : PutM} (ha : tagOk p.tag) : mapply_m s p = r13apply_m s p := by
  unfold mapply_m r13apply_m
  rw [mcheck_eq hs, mright_eq]
  by_cases c1 : r13check_m s = 0
  · rw [if_pos c1, if_pos c1]
    have ok := mapOk_of (s := s) (by rw [mcheck_eq hs]; exact c1)
    by_cases c2 : r5checkTag_m p.tag = 0
    · rw [if_pos c2, if_neg (by unfold mnotTag_m; rw [notTag_iff ha]; simp [c2])]
      by_cases c3 : r13fits_m p = true
      · rw [if_pos c3, if_pos c3, mtags_eq, bsearch_tw ok.rp, hasTag_eq, has_eq ok.rg, tw_map]
        simp only [decide_eq_true_eq]
        have hl := mapply_out s p (fun a h => (hs.puts a h).seq) ha.seq ok.rp (((s.puts.length : Int) - (0 : Int)).toNat + 1) [] 0 [] [] (by omega) (by omega) (by omega)
        simp only [Int.toNat_zero, List.drop_zero, List.nil_append] at hl
        rw [hl]
        by_cases c5 : p.tag ∈ s.gone
        · rw [if_pos c5, if_pos c5]
          split <;> rfl
        · rw [if_neg c5, if_neg c5]
          by_cases c4 : p.tag ∈ s.puts.map (·.tag)
          · rw [if_pos c4, if_pos c4]; rfl
          · rw [if_neg c4, if_neg c4]
            have e := List.takeWhile_append_dropWhile (p := fun x : PutM => tagLt x.tag p.tag) (l := s.puts)
            have hlen := congrArg List.length e
            rw [List.length_append] at hlen
            have hins : insertPut_m (mown_m s).puts ((s.puts.takeWhile (fun x => tagLt x.tag p.tag)).length : Int) [p] = s.puts.takeWhile (fun x => tagLt x.tag p.tag) ++ [p] ++ s.puts.dropWhile (fun x => tagLt x.tag p.tag) := by
              unfold insertPut_m
              rw [Int.toNat_natCast]
              show s.puts.take _ ++ [p] ++ s.puts.drop _ = _
              rw [take_tw, drop_tw]
            rw [hins]
            have hlp := ok.lp
            by_cases c6 : s.puts.dropWhile (fun x => tagLt x.tag p.tag) = []
            · rw [if_pos c6, c6]
              rw [c6, List.append_nil] at e
              simp only [Bool.false_eq_true, if_false, List.append_nil, e, List.length_append, List.length_singleton]
              by_cases c7 : (s.puts.length : Int) = 4096
              · rw [if_pos c7, if_pos (by omega)]
              · rw [if_neg c7, if_neg (by omega)]; rfl
            · rw [if_neg c6]
              simp only [if_true, List.length_append, List.length_singleton]
              by_cases c7 : (s.puts.length : Int) = 4096
              · rw [if_pos c7, if_pos (by omega)]
              · rw [if_neg c7, if_neg (by omega)]; rfl
      · rw [if_neg c3, if_neg c3]
    · rw [if_neg c2, if_pos (by unfold mnotTag_m; rw [notTag_iff ha]; exact c2)]
  · rw [if_neg c1, if_neg c1]
theorem mdrop_eq {s : MapM} (hs : MapWf s) {l : List TagM} (hl : ∀ t ∈ l, tagOk t) : mdrop_m s l = r13drop_m s l := by
  unfold mdrop_m r13drop_m
  rw [mcheck_eq hs]
  by_cases c1 : r13check_m s = 0
  · rw [if_pos c1, if_pos c1]
    have ok := mapOk_of (s := s) (by rw [mcheck_eq hs]; exact c1)
    have hz : ocheck_m ⟨[], s.gone⟩ = 0 := by
      unfold ocheck_m
      rw [if_neg (by rw [ocheck_c1_iff]; have := ok.lg; simp; omega), if_neg (by rw [ocheck_c2_iff, containsF_eq, containsF_eq]; simp [ok.rt]), if_pos (by rw [strictAdd_iff]; simp [Rises]), if_neg (by rw [ocheck_c3_iff, containsF_eq]; simp [(strictTag_iff s.gone).2 ok.rg])]
    rw [← odrop_eq (s := ⟨[], s.gone⟩) ⟨by simp, hs.gone⟩ hl]
    have hd := drop_gone (fun x hx => (hs.gone x hx).seq) (fun x hx => (hl x hx).seq) ok.rg
    have hgf := goneFold l s.gone (fun x hx => (hl x hx).seq) (fun x hx => (hs.gone x hx).seq) ok.rg
    unfold odrop_m
    rw [if_pos hz]
    have en : mnotTag_m = onotTag_m := rfl
    rw [en]
    by_cases c2 : 4096 < (l.length : Int)
    · simp only [c2, if_true]; simp
    · simp only [c2, if_false]
      by_cases c3 : containsF_m l onotTag_m = true
      · simp only [c3, if_true]; simp
      · simp only [c3, if_false]
        by_cases c4 : 4096 < ((compactTag_m (sortF icompareTag_m (concatTag_m s.gone l))).length : Int)
        · simp only [c4, if_true]; simp
        · simp only [c4, if_false, if_true]
          rw [loop_fold0' s.puts (fun acc x => if (!r12hasTag_m l x.tag) = true then acc ++ [x] else acc) (r13drop_L1 s l) (fun fuel b i _ => by
            rw [r13drop_L1]; by_cases h : r12hasTag_m l (ix s.puts i).tag = true <;> simp [h])]
          simp only [foldl_filter_app (fun x : PutM => !r12hasTag_m l x.tag) (fun x : PutM => x), List.nil_append, List.map_id', deleteF_eq]
          refine congrArg (fun x => ((⟨x, compactTag_m (sortF icompareTag_m (concatTag_m s.gone l))⟩ : MapM), (0 : Int))) ?_
          unfold clonePut_m
          apply List.filter_congr
          intro a ha
          congr 1
          unfold mdrop1_m
          rw [hd, has_eq hgf.1, hasTag_eq]
          apply decide_eq_decide.2
          rw [hgf.2]
          constructor
          · rintro (h | h)
            · exact absurd h (ok.dj a ha)
            · exact h
          · exact .inr
  · rw [if_neg c1, if_neg c1]
end Go.Proofs.YtmenpoicgoijcaaGreat

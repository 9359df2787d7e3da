/- Walks printed by gen2.py out of our own specifications: what the functions named below do. -/
import Derived.Test.YtmenpoicgoijcaaGreatSc
import Derived.Test.YtmenpoicgoijcaaGreatZI
set_option linter.unusedSimpArgs false
set_option linter.unusedVariables false
namespace Go.Proofs.YtmenpoicgoijcaaGreat
open Go.RowKit
structure EffWf (e : EffectM) : Prop where
  tag : tagOk e.tag
  tags : ∀ t ∈ e.tags, tagOk t
  time : 0 ≤ e.atF.time
theorem formAt (a : Int) : (oform_m a).atF = r14timed_m a := by
  unfold oform_m r14timed_m
  by_cases h1 : a = 5
  · simp [h1]
  · by_cases h2 : a = 1
    · simp [h2]
    · simp only [h1, h2, if_false]
      have : (a == 5) = false := by simpa using h1
      rw [this]
      repeat' split
      all_goals rfl
theorem formTags (a : Int) : (oform_m a).tags = r14takes_m a := by
  unfold oform_m r14takes_m
  by_cases h1 : a = 4
  · simp [h1]
  · by_cases h2 : a = 6
    · simp [h2]
    · simp only [h1, h2, if_false]
      have e4 : (a == 4) = false := by simpa using h1
      have e6 : (a == 6) = false := by simpa using h2
      repeat' split
      all_goals first | rfl | simp_all
theorem otimed_iff {s : StampM} (h : 0 ≤ s.time) : otimed_m s = true ↔ (r9check_m s = 0 ∧ ¬ s.time = 0) := by
  unfold otimed_m; rw [lcheck_eq]
  by_cases e : r9check_m s = 0
  · simp [e]; omega
  · simp [e]
theorem checkE_eq {e : EffectM} (h : EffWf e) : ocheckE_m e = r14checkE_m e := by
  unfold ocheckE_m r14checkE_m
  rw [checkOp_eq]
  split
  · have k1 : (ocheckE_c1 e = true) ↔ ¬ (r5checkTag_m e.tag = 0 ∧ e.tags.all (fun t => decide (r5checkTag_m t = 0)) = true) := by
      rw [ocheckE_c1_iff, containsF_eq]
      have b1 : (bnotTag_m e.tag = true) ↔ ¬ r5checkTag_m e.tag = 0 := by unfold bnotTag_m; rw [checkTag_eq h.tag]; simp
      have b2 : e.tags.any bnotTag_m = !e.tags.all (fun t => decide (r5checkTag_m t = 0)) := by
        rw [List.not_all_eq_any_not, Bool.eq_iff_iff]
        simp only [List.any_eq_true]
        constructor
        · rintro ⟨t, ht, q⟩
          exact ⟨t, ht, by unfold bnotTag_m at q; rw [checkTag_eq (h.tags t ht)] at q; simpa using q⟩
        · rintro ⟨t, ht, q⟩
          exact ⟨t, ht, by unfold bnotTag_m; rw [checkTag_eq (h.tags t ht)]; simpa using q⟩
      rw [b1, b2]
      by_cases x : r5checkTag_m e.tag = 0 <;> by_cases y : e.tags.all (fun t => decide (r5checkTag_m t = 0)) = true <;> simp [x, y]
    obtain ⟨q1, l1⟩ := loop_all0 e.tags (fun t => decide (r5checkTag_m t = 0)) 2 (r14checkE_L1 e) (fun fuel i _ => by rw [r14checkE_L1]; simp only [decide_eq_true_eq])
    by_cases c1 : r5checkTag_m e.tag = 0
    · by_cases c2 : e.tags.all (fun t => decide (r5checkTag_m t = 0)) = true
      · rw [if_neg (fun q => k1.1 q ⟨c1, c2⟩), if_pos c1, l1, if_pos c2]
        simp only
        split
        · rfl
        · have k2 : (ocheckE_c2 e = true) ↔ (r14checkE_c1 e q1 = true) := by
            rw [ocheckE_c2_iff, r14checkE_c1_iff, formAt, formTags, otimed_iff h.time]
            by_cases x : r14timed_m e.act = true <;> by_cases y : r9check_m e.atF = 0 <;> by_cases z : e.atF.time = 0 <;> simp [x, y, z]
          by_cases c3 : r14checkE_c1 e q1 = true
          · rw [if_pos (k2.2 c3), if_pos c3]
          · rw [if_neg (fun q => c3 (k2.1 q)), if_neg c3]
            have v : ∀ t ∈ e.tags, seqOk t := fun t ht => by
              rw [List.all_eq_true] at c2
              exact valid_seq (by simpa using c2 t ht)
            have key : ∀ fuel (i : Int), 1 ≤ i → ocheckE_L1 e fuel i = r14checkE_L2 e q1 fuel i := by
              intro fuel
              induction fuel with
              | zero => intro i _; rfl
              | succ fuel ih =>
                intro i hi
                rw [ocheckE_L1, r14checkE_L2, ih (i + 1) (by omega)]
                split
                · rw [r5compareTag_eq (v _ (ix_memI _ (by omega) (by omega))) (v _ (ix_memI _ (by omega) (by omega))), icompareTag_eq]
                · rfl
            rw [key _ 1 (by omega)]
            rfl
      · rw [if_pos (k1.2 fun q => c2 q.2), if_pos c1, l1, if_neg c2]
    · rw [if_pos (k1.2 fun q => c1 q.1), if_neg c1]
  · rfl
theorem oown_eq (s : ObjM) : oown_m s = s := rfl
theorem apply_eq {s : ObjM} (h1 : SetWf s.setF) (h2 : MapWf s.map) {e : EffectM} (he : EffWf e) : oapply_m s e = r14apply_m s e := by
  unfold oapply_m r14apply_m
  rw [checkE_eq he, oown_eq]
  have hk : okind_m e.act = r14kind_m e.act := rfl
  have ha : ∀ n, tagOk (⟨e.tag, n⟩ : AddM).tag := fun _ => he.tag
  have hp : tagOk (⟨e.tag, e.name, e.val, e.atF⟩ : PutM).tag := he.tag
  simp only [hk, wapply_eq, napply_eq]
  have q1 := oput_eq h1 (ha e.name)
  have q2 := odrop_eq h1 he.tags
  have q3 := mapply_eq h2 hp
  have q4 := mdrop_eq h2 he.tags
  have q1' : oput_m (⟨s.setF.adds, s.setF.gone⟩ : SetM) (⟨e.tag, e.name⟩ : AddM) = r12put_m s.setF ⟨e.tag, e.name⟩ := q1
  have q2' : odrop_m (⟨s.setF.adds, s.setF.gone⟩ : SetM) e.tags = r12drop_m s.setF e.tags := q2
  have q3' : mapply_m (⟨s.map.puts, s.map.gone⟩ : MapM) (⟨e.tag, e.name, e.val, e.atF⟩ : PutM) = r13apply_m s.map ⟨e.tag, e.name, e.val, e.atF⟩ := q3
  have q4' : mdrop_m (⟨s.map.puts, s.map.gone⟩ : MapM) e.tags = r13drop_m s.map e.tags := q4
  simp only [q1, q2, q3, q4, q1', q2', q3', q4']
theorem compact_eq {s : ObjM} (h1 : SetWf s.setF) (h2 : MapWf s.map) (vv : A8u32M) : bcompact_m s vv = r14compact_m s vv := by
  unfold bcompact_m r14compact_m
  rw [oown_eq]
  have q1 := ocompact_eq h1 vv
  have q2 := mcompact_eq h2 vv
  have q1' : ocompact_m (⟨s.setF.adds, s.setF.gone⟩ : SetM) vv = r12compact_m s.setF vv := q1
  have q2' : mcompact_m (⟨s.map.puts, s.map.gone⟩ : MapM) vv = r13compact_m s.map vv := q2
  simp only [q1, q2, q1', q2']
theorem say_eq {s : ObjM} (h1 : SetWf s.setF) (h2 : MapWf s.map) : osay_m s = r14say_m s := by
  unfold osay_m r14say_m
  rw [nvalue_eq, items_eq h2, loop_fold0' (oelems_m s.setF) (fun acc x => acc ++ [(⟨x, 0⟩ : ItemM)]) (osay_L1 s) (fun _ _ _ _ => rfl), loop_fold0' (r12elems_m s.setF) (fun acc x => acc ++ [(⟨x, 0⟩ : ItemM)]) (r14say_L1 s) (fun _ _ _ _ => rfl), elems_eq h1]
theorem toEff_eq (e : EffectM) : toEff_m e = e := by unfold toEff_m; simp
theorem fromVal_eq (v : ValueM) : fromVal_m v = v := by
  unfold fromVal_m
  rw [loop_fold0' v.items (fun acc x => acc ++ [x]) (fromVal_L1 v) (fun _ _ _ _ => rfl)]
  simp only [foldl_map_app (fun x : ItemM => x), List.nil_append, List.map_id']
theorem sameItems_refl (a : List ItemM) : sameItems_m a a = true := by
  unfold sameItems_m
  rw [if_pos rfl]
  obtain ⟨q, h⟩ := loop_all0 a (fun _ => true) false (sameItems_L1 a a) (fun fuel i _ => by rw [sameItems_L1]; simp)
  rw [h]; simp
theorem sameValue_refl (a : ValueM) : sameValue_m a a = true := by unfold sameValue_m; simp [sameItems_refl]
theorem oput_len (s : SetM) (a : AddM) : (oput_m s a).1.adds.length ≤ s.adds.length + 1 ∧ (oput_m s a).1.gone.length ≤ s.gone.length := by
  unfold oput_m insertAdd_m cloneAdd_m cloneTag_m
  repeat' split
  all_goals simp
  all_goals omega
theorem odrop_len (s : SetM) (l : List TagM) : (odrop_m s l).1.adds.length ≤ s.adds.length ∧ (odrop_m s l).1.gone.length ≤ 4096 := by
  unfold odrop_m cloneAdd_m
  rw [deleteF_eq]
  have := List.length_filter_le (fun x => !(fun x0 => odrop1_m x0 (⟨([] : List AddM), compactTag_m (sortF icompareTag_m (concatTag_m s.gone l))⟩ : SetM)) x) s.adds
  repeat' split
  all_goals (refine ⟨?_, ?_⟩ <;> first | (dsimp only; omega) | omega | exact this | (simp; done))
theorem mapply_len (s : MapM) (p : PutM) : (mapply_m s p).1.puts.length ≤ s.puts.length + 1 ∧ (mapply_m s p).1.gone.length ≤ s.gone.length := by
  unfold mapply_m insertPut_m
  have e : mown_m s = s := rfl
  rw [e]
  repeat' split
  all_goals simp
  all_goals omega
theorem mdrop_len (s : MapM) (l : List TagM) : (mdrop_m s l).1.puts.length ≤ s.puts.length ∧ (mdrop_m s l).1.gone.length ≤ 4096 := by
  unfold mdrop_m clonePut_m
  rw [deleteF_eq]
  have := List.length_filter_le (fun x => !(fun x0 => mdrop1_m x0 (compactTag_m (sortF icompareTag_m (concatTag_m s.gone l)))) x) s.puts
  repeat' split
  all_goals (refine ⟨?_, ?_⟩ <;> first | (dsimp only; omega) | omega | exact this | (simp; done))
theorem ocompact_len (s : SetM) (vv : A8u32M) : (ocompact_m s vv).1.adds.length ≤ s.adds.length ∧ (ocompact_m s vv).1.gone.length ≤ s.gone.length := by
  unfold ocompact_m cloneAdd_m cloneTag_m
  rw [deleteF_eq]
  have := List.length_filter_le (fun x => !(fun x0 => ocompact1_m x0 vv) x) s.gone
  split
  · exact ⟨Nat.le_refl _, this⟩
  · exact ⟨by simp, by simp⟩
theorem mcompact_len (s : MapM) (vv : A8u32M) : (mcompact_m s vv).1.puts.length ≤ s.puts.length ∧ (mcompact_m s vv).1.gone.length ≤ s.gone.length := by
  unfold mcompact_m
  have e : mown_m s = s := rfl
  rw [deleteF_eq, e]
  have := List.length_filter_le (fun x => !(fun x0 => mcompact1_m x0 vv) x) s.gone
  split
  · exact ⟨Nat.le_refl _, this⟩
  · exact ⟨by simp, by simp⟩
def Small (s : ObjM) (n : Nat) : Prop := s.setF.adds.length ≤ n ∧ s.setF.gone.length ≤ n ∧ s.map.puts.length ≤ n ∧ s.map.gone.length ≤ n
theorem apply_small {s : ObjM} (h : Small s 1000) (e : EffectM) : Small (oapply_m s e).1 5000 := by
  obtain ⟨h1, h2, h3, h4⟩ := h
  have a1 := oput_len (⟨s.setF.adds, s.setF.gone⟩ : SetM) ⟨e.tag, e.name⟩
  dsimp only at a1
  have a2 := odrop_len (⟨s.setF.adds, s.setF.gone⟩ : SetM) e.tags
  dsimp only at a2
  have a3 := mapply_len (⟨s.map.puts, s.map.gone⟩ : MapM) ⟨e.tag, e.name, e.val, e.atF⟩
  dsimp only at a3
  have a4 := mdrop_len (⟨s.map.puts, s.map.gone⟩ : MapM) e.tags
  dsimp only at a4
  unfold oapply_m
  rw [oown_eq]
  unfold Small
  repeat' split
  all_goals (refine ⟨?_, ?_, ?_, ?_⟩ <;> first | (dsimp only; omega) | omega | (simp; done))
theorem compact_small {s : ObjM} (h : Small s 1000) (vv : A8u32M) : Small (bcompact_m s vv).1 5000 := by
  obtain ⟨h1, h2, h3, h4⟩ := h
  have a1 := ocompact_len (⟨s.setF.adds, s.setF.gone⟩ : SetM) vv
  dsimp only at a1
  have a2 := mcompact_len (⟨s.map.puts, s.map.gone⟩ : MapM) vv
  dsimp only at a2
  unfold bcompact_m
  rw [oown_eq]
  unfold Small
  repeat' split
  all_goals (refine ⟨?_, ?_, ?_, ?_⟩ <;> first | (dsimp only; omega) | omega | (simp; done))
theorem pfold_len : ∀ (l : List PutM) (m : List (List UInt8 × PutM)), (l.foldl pstep m).length ≤ m.length + l.length
  | [], m => by simp
  | p :: l, m => by
    have h1 : (pstep m p).length ≤ m.length + 1 := by
      unfold pstep
      split
      · exact mset_len m _ _
      · split
        · exact mset_len m _ _
        · omega
    have := pfold_len l (pstep m p)
    rw [List.foldl_cons]; simp; omega
theorem say_small {s : ObjM} (h : Small s 1000) : (osay_m s).items.length ≤ 1000 := by
  obtain ⟨h1, h2, h3, h4⟩ := h
  unfold osay_m
  rw [mitems_z, loop_fold0' (oelems_m s.setF) (fun acc x => acc ++ [(⟨x, 0⟩ : ItemM)]) (osay_L1 s) (fun _ _ _ _ => rfl)]
  simp only [foldl_map_app (fun x : List UInt8 => (⟨x, 0⟩ : ItemM)), List.nil_append]
  have a1 := oelems_len s.setF
  have a2 := pfold_len s.map.puts []
  have a3 := sortI_len ((s.map.puts.foldl pstep []).map (fun p : List UInt8 × PutM => (⟨p.1, p.2.val⟩ : ItemM)))
  rw [List.length_map] at a3
  simp only [List.length_nil, Nat.zero_add] at a2
  repeat' split
  all_goals first | (simp; done) | (simp; omega) | (rw [List.length_map]; omega) | omega
end Go.Proofs.YtmenpoicgoijcaaGreat

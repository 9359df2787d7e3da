/- Walks printed by gen2.py out of our own specifications: what the functions named below do. -/
import Derived.Test.YtngofknckkiboaaGreatDoorSc
import Derived.Test.YtngofknckkiboaaGreatDoorHW
import Derived.Test.YtngofknckkiboaaGreatDoorDp
import Derived.Test.YtngofknckkiboaaGreatDoorSw
import Derived.Test.YtngofknckkiboaaGreatDoorSv
set_option linter.unusedSimpArgs false
set_option linter.unusedVariables false
namespace Go.Proofs.YtngofknckkiboaaGreatDoor
open Go.RowKit

def pstep (m : List (List UInt8 × PutM)) (p : PutM) : List (List UInt8 × PutM) := match mget m p.field with | none => mset m p.field p | some q => if mlater_m q p < 0 then mset m p.field p else m
theorem mitems_z (s : MapM) : mitems_m s = if mcheck_m s = 0 then sortI ((s.puts.foldl pstep []).map (fun p : List UInt8 × PutM => (⟨p.1, p.2.val⟩ : ItemM))) else [] := by
  unfold mitems_m
  rw [loop_fold0' s.puts pstep (mitems_L1 s) (fun fuel b i _ => by
    rw [mitems_L1]
    have hc : pstep b (ix s.puts i) = if mitems_c1 s i b = true then mset b (ix s.puts i).field (ix s.puts i) else b := by
      unfold pstep mitems_c1
      cases hg : mget b (ix s.puts i).field with
      | none => simp
      | some q => simp
    rw [hc]
    by_cases q : mitems_c1 s i b = true
    · simp [q]
    · simp [q])]
theorem toEff_eq (e : EffectM) : toEff_m e = e := by unfold toEff_m; simp
theorem fromVal_eq (v : ValueM) : fromVal_m v = v := by
  unfold fromVal_m
  rw [loop_fold0' v.items (fun acc x => acc ++ [x]) (fromVal_L1 v) (fun _ _ _ _ => rfl)]
  simp only [foldl_map_app (fun x : ItemM => x), List.nil_append, List.map_id']
theorem sameItems_refl (a : List ItemM) : sameItems_m a a = true := by
  unfold sameItems_m
  rw [if_pos rfl]
  obtain ⟨q, h⟩ := loop_all0 a (fun _ => true) false (sameItems_L1 a a) (fun fuel i _ => by rw [sameItems_L1]; simp)
  rw [h]; simp
theorem sameValue_refl (a : ValueM) : sameValue_m a a = true := by unfold sameValue_m; simp [sameItems_refl]
theorem pfold_len : ∀ (l : List PutM) (m : List (List UInt8 × PutM)), (l.foldl pstep m).length ≤ m.length + l.length
  | [], m => by simp
  | p :: l, m => by
    have h1 : (pstep m p).length ≤ m.length + 1 := by
      unfold pstep
      split
      · exact mset_len m _ _
      · split
        · exact mset_len m _ _
        · omega
    have := pfold_len l (pstep m p)
    rw [List.foldl_cons]; simp; omega

theorem say_small {s : ObjM} {n : Nat} (h1 : s.setF.adds.length ≤ n) (h3 : s.map.puts.length ≤ n) : (osay_m s).items.length ≤ n := by
  unfold osay_m
  rw [mitems_z, loop_fold0' (oelems_m s.setF) (fun acc x => acc ++ [(⟨x, 0⟩ : ItemM)]) (osay_L1 s) (fun _ _ _ _ => rfl)]
  simp only [foldl_map_app (fun x : List UInt8 => (⟨x, 0⟩ : ItemM)), List.nil_append]
  have a1 := oelems_len s.setF
  have a2 := pfold_len s.map.puts []
  have a3 := sortI_len ((s.map.puts.foldl pstep []).map (fun p : List UInt8 × PutM => (⟨p.1, p.2.val⟩ : ItemM)))
  rw [List.length_map] at a3
  simp only [List.length_nil, Nat.zero_add] at a2
  repeat' split
  all_goals first | (simp; done) | (simp; omega) | (rw [List.length_map]; omega) | omega

theorem great_bnd {s : ObjM} {e : EffectM} (h : ¬ great14_m s e = true) : e.tags.length ≤ 100 ∧ e.name.length ≤ 1000 := by
  unfold great14_m at h
  repeat' split at h
  all_goals simp_all
  all_goals omega

/-- What holds at the head of the first loop. -/
structure LI (k : Int) (s : ObjM) (D : List EffectM) (m : List (TagM × Bool)) (i : Int) : Prop where
  o : OInv k s D
  g : ∀ x ∈ D, Good k x
  nd : (D.map (·.tag)).Nodup
  mem : ∀ t, (mget m t).getD false = true ↔ t ∈ D.map (·.tag)
  n : (D.length : Int) ≤ i
  i0 : 0 ≤ i
  i40 : i ≤ 40
theorem mget_set {β : Type} (m : List (TagM × β)) (k : TagM) (v : β) (t : TagM) : mget (mset m k v) t = if t = k then some v else mget m t := by
  induction m with
  | nil =>
    by_cases h : t = k
    · subst h; unfold mset mget; simp
    · have h2 : ¬ k = t := fun q => h q.symm
      unfold mset mget; simp [h, h2]
  | cons e r ih =>
    unfold mset
    by_cases h : e.1 = k
    · rw [if_pos h]
      by_cases h2 : t = k
      · subst h2; unfold mget; simp
      · rw [if_neg h2]; unfold mget; simp only [List.find?]
        rw [h]; simp [show ¬ k = t from fun q => h2 q.symm]
    · rw [if_neg h]
      by_cases h2 : e.1 = t
      · subst h2
        rw [if_neg h]; unfold mget; simp
      · have e1 : mget (e :: mset r k v) t = mget (mset r k v) t := by unfold mget; simp [h2]
        have e2 : mget (e :: r) t = mget r t := by unfold mget; simp [h2]
        rw [e1, e2, ih]
theorem LI.init {k : Int} (h1 : 1 ≤ k) (h2 : k ≤ 4) : LI k (onew_m k).1 [] [] 0 := by
  rw [onew_z h1 h2]
  exact ⟨oinv_z k, by simp, by simp, by simp [mget], by simp, by omega, by omega⟩
section
variable {k : Int} {s b : ObjM} {D : List EffectM} {m : List (TagM × Bool)} {i j : Int} {e : EffectM}
theorem LI.skip (h : LI k s D m i) (hi : i < 40) : LI k s D m (i + 1) := ⟨h.o, h.g, h.nd, h.mem, by have := h.n; omega, by have := h.i0; omega, by omega⟩
theorem LI.step (h : LI k s D m i) (hi : i < 40) (h1 : 1 ≤ k) (ht : e.tags.length ≤ 100) (hs : ¬ (mget m e.tag).getD false = true) (ha : (oapply_m s e).2 = 0) : LI k (oapply_m s e).1 (D ++ [e]) (mset m e.tag true) (i + 1) := by
  have hg := oapply_bad h.o.kd ha
  have he : Good k e := ⟨hg.1, hg.2, ht⟩
  have hf : e.tag ∉ D.map (·.tag) := fun q => hs ((h.mem _).2 q)
  have hn := h.n
  obtain ⟨s', e1, e2⟩ := oapply_step h1 h.o h.g he hf (by omega)
  rw [e1]
  refine ⟨e2, fun x hx => ?_, ?_, fun t => ?_, by simp; omega, by have := h.i0; omega, by omega⟩
  · rcases List.mem_append.1 hx with q | q
    · exact h.g x q
    · rw [List.mem_singleton] at q; exact q ▸ he
  · rw [List.map_append, List.nodup_append]
    refine ⟨h.nd, by simp, fun a ha b hb q => hf ?_⟩
    simp at hb; subst hb; exact q ▸ ha
  · rw [mget_set]
    by_cases q : t = e.tag
    · subst q; simp
    · rw [if_neg q, h.mem]; simp [q]
theorem LI.small (h : LI k s D m i) : s.setF.adds.length ≤ 1000000 ∧ s.setF.gone.length ≤ 1000000 ∧ s.map.puts.length ≤ 1000000 ∧ s.map.gone.length ≤ 1000000 := h.o.small (by have := h.n; have := h.i40; omega)
/-- The second loop: what is behind a place was applied, the last one first. -/
def LJ (k : Int) (b : ObjM) (D : List EffectM) (j : Int) : Prop := OInv k b ((D.drop (j + 1).toNat).reverse) ∧ -1 ≤ j ∧ j < D.length
theorem LJ.init (h1 : 1 ≤ k) (h2 : k ≤ 4) : LJ k (onew_m k).1 D ((D.length : Int) - 1) := by
  rw [onew_z h1 h2]
  refine ⟨?_, by omega, by omega⟩
  rw [show ((D.length : Int) - 1 + 1).toNat = D.length by omega, List.drop_length]; exact oinv_z k
theorem LJ.small (h : LI k s D m i) (hj : LJ k b D j) : b.setF.adds.length ≤ 1000000 ∧ b.setF.gone.length ≤ 1000000 ∧ b.map.puts.length ≤ 1000000 ∧ b.map.gone.length ≤ 1000000 := hj.1.small (by have := h.n; have := h.i40; simp; omega)
theorem LJ.step (h : LI k s D m i) (h1 : 1 ≤ k) (hj : LJ k b D j) (h0 : 0 ≤ j) : (oapply_m b (ix D j)).2 = 0 ∧ LJ k (oapply_m b (ix D j)).1 D (j - 1) := by
  obtain ⟨ho, _, hlt⟩ := hj
  have hd := ix_drop D h0 hlt
  have hn := h.n; have h40 := h.i40
  have hmem : ix D j ∈ D := ix_memI D h0 hlt
  have hnd : (((D.drop (j + 1).toNat).reverse ++ [ix D j]).map (·.tag)).Nodup := by
    have e : (D.drop (j + 1).toNat).reverse ++ [ix D j] = (D.drop j.toNat).reverse := by rw [hd, List.reverse_cons]
    rw [e, List.map_reverse, (List.reverse_perm _).nodup_iff]
    exact h.nd.sublist ((List.drop_sublist _ _).map _)
  have hf : (ix D j).tag ∉ ((D.drop (j + 1).toNat).reverse).map (·.tag) := by
    rw [List.map_append, List.nodup_append] at hnd
    intro q; exact hnd.2.2 _ q _ (by simp) rfl
  obtain ⟨s', e1, e2⟩ := oapply_step h1 ho (fun x hx => h.g x (List.mem_of_mem_drop (List.mem_reverse.1 hx))) (h.g _ hmem) hf (by simp; omega)
  rw [e1]
  refine ⟨rfl, ?_, by omega, by omega⟩
  rw [show (j - 1 + 1).toNat = j.toNat by omega, hd, List.reverse_cons]; exact e2
theorem LJ.done (h : LI k s D m i) (hj : LJ k b D j) (h0 : ¬ 0 ≤ j) : s = b := by
  obtain ⟨ho, h1, _⟩ := hj
  rw [show (j + 1).toNat = 0 by omega, List.drop_zero] at ho
  exact h.o.ext ho (List.reverse_perm D).symm
end

end Go.Proofs.YtngofknckkiboaaGreatDoor

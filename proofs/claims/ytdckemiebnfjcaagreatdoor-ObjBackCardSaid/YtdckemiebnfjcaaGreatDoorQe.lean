/- Walks printed by gen2.py out of our own specifications: what the functions named below do. -/
import Derived.Test.YtdckemiebnfjcaaGreatDoorSc
import Derived.Test.YtdckemiebnfjcaaGreatDoorQd
set_option linter.unusedSimpArgs false
set_option linter.unusedVariables false
namespace Go.Proofs.YtdckemiebnfjcaaGreatDoor
open Go.RowKit
theorem great_obj {s : ObjM} {e : EffectM} (h : ¬ great14_m s e = true) : s.setF.adds.length ≤ 200 ∧ s.setF.gone.length ≤ 200 ∧ s.map.puts.length ≤ 100 ∧ s.map.gone.length ≤ 200 := by
  obtain ⟨b1, b2, b3, b4, _⟩ := great14_bnd h
  exact ⟨b1, b2, b3, b4⟩
structure WfA (s : ObjM) (o : OpM) (t : TagM) : Prop where
  a : ∀ a ∈ s.setF.adds, 0 ≤ a.tag.id.seq
  p : ∀ a ∈ s.map.puts, 0 ≤ a.tag.id.seq
  v : -9223372036854775808 ≤ o.val ∧ o.val ≤ 9223372036854775807
  t : 0 ≤ t.id.seq
theorem at_new {b more : List UInt8} : AtR (rnew_m (b ++ more)) (b ++ more) := ⟨rfl, Int.le_refl _, by unfold rnew_m; simp only; omega, rfl⟩
structure Bk (s : ObjM) (o : OpM) (t : TagM) (more : List UInt8) : Prop where
  i : EffIn (oprepare_m s o t ⟨1048576, 7⟩).1
  act : (oprepare_m s o t ⟨1048576, 7⟩).1.act = o.act
  val : (oprepare_m s o t ⟨1048576, 7⟩).1.val = o.val
  at1 : o.act = 1 → (oprepare_m s o t ⟨1048576, 7⟩).1.atF = ⟨1048576, 7⟩
  t4 : o.act = 4 → (oprepare_m s o t ⟨1048576, 7⟩).1.tags = oTags_m s.setF o.name
  t6 : o.act = 6 → (oprepare_m s o t ⟨1048576, 7⟩).1.tags = mTags_m s.map o.name
  w : owrite_m (oprepare_m s o t ⟨1048576, 7⟩).1 = (effB (oprepare_m s o t ⟨1048576, 7⟩).1, 0)
  l : (owrite_m (oprepare_m s o t ⟨1048576, 7⟩).1).1.length ≤ 200000
  n : (oprepare_m s o t ⟨1048576, 7⟩).1.name.length ≤ 12
  tl : (oprepare_m s o t ⟨1048576, 7⟩).1.tags.length ≤ 4096
  r : oread_m (rnew_m ((owrite_m (oprepare_m s o t ⟨1048576, 7⟩).1).1 ++ more)) = ((oprepare_m s o t ⟨1048576, 7⟩).1, advR (rnew_m ((owrite_m (oprepare_m s o t ⟨1048576, 7⟩).1).1 ++ more)) (owrite_m (oprepare_m s o t ⟨1048576, 7⟩).1).1.length)
theorem bk_of {s : ObjM} {o : OpM} {t : TagM} {more : List UInt8} (h : (oprepare_m s o t ⟨1048576, 7⟩).2 = 0) (hw : WfA s o t) (h1 : s.setF.adds.length ≤ 200) (h2 : s.map.puts.length ≤ 100) : Bk s o t more := by
  obtain ⟨i, _, a, n, v, at1, t4, t6⟩ := prep_in h hw.t hw.v (oTags_in hw.a (by omega) o.name) (mTags_in hw.p (by omega) o.name)
  have hz := owrite_z i.c i.a (by have := i.tl; omega)
  have hn := i.n; have hl := i.tl
  have hb := effB_len (oprepare_m s o t ⟨1048576, 7⟩).1
  refine ⟨i, a, v, at1, t4, t6, hz, by rw [hz]; simp only; omega, by omega, hl, ?_⟩
  rw [hz]
  exact oread_at at_new i
theorem oput_small {s : SetM} {a : AddM} (h : s.adds.length ≤ 200 ∧ s.gone.length ≤ 200) : (oput_m s a).1.adds.length ≤ 5000 ∧ (oput_m s a).1.gone.length ≤ 5000 := by
  unfold oput_m insertAdd_m cloneAdd_m cloneTag_m
  repeat' split
  all_goals (simp; try omega)
theorem odrop_small {s : SetM} {l : List TagM} (h : s.adds.length ≤ 200 ∧ s.gone.length ≤ 200) : (odrop_m s l).1.adds.length ≤ 5000 ∧ (odrop_m s l).1.gone.length ≤ 5000 := by
  have q : ∀ p : AddM → Bool, (s.adds.filter p).length ≤ 200 := fun p => Nat.le_trans (List.length_filter_le _ _) h.1
  unfold odrop_m
  rw [deleteF_eq]
  unfold cloneAdd_m
  repeat' split
  all_goals first | exact ⟨Nat.zero_le _, Nat.zero_le _⟩ | exact ⟨Nat.le_trans (q _) (by decide), by simp only; omega⟩
theorem mapply_small {s : MapM} {a : PutM} (h : s.puts.length ≤ 200 ∧ s.gone.length ≤ 200) : (mapply_m s a).1.puts.length ≤ 5000 ∧ (mapply_m s a).1.gone.length ≤ 5000 := by
  have e : mown_m s = s := rfl
  unfold mapply_m insertPut_m
  rw [e]
  repeat' split
  all_goals (simp; try omega)
theorem mdrop_small {s : MapM} {l : List TagM} (h : s.puts.length ≤ 200 ∧ s.gone.length ≤ 200) : (mdrop_m s l).1.puts.length ≤ 5000 ∧ (mdrop_m s l).1.gone.length ≤ 5000 := by
  have q : ∀ p : PutM → Bool, (s.puts.filter p).length ≤ 200 := fun p => Nat.le_trans (List.length_filter_le _ _) h.1
  unfold mdrop_m
  rw [deleteF_eq]
  unfold clonePut_m
  repeat' split
  all_goals first | exact ⟨Nat.zero_le _, Nat.zero_le _⟩ | exact ⟨Nat.le_trans (q _) (by decide), by simp only; omega⟩
theorem oapply_small {s : ObjM} {e : EffectM} (h1 : s.setF.adds.length ≤ 200) (h2 : s.setF.gone.length ≤ 200) (h3 : s.map.puts.length ≤ 200) (h4 : s.map.gone.length ≤ 200) :
    (oapply_m s e).1.setF.adds.length ≤ 5000 ∧ (oapply_m s e).1.setF.gone.length ≤ 5000 ∧ (oapply_m s e).1.map.puts.length ≤ 5000 ∧ (oapply_m s e).1.map.gone.length ≤ 5000 := by
  have e1 : oown_m s = s := rfl
  have a1 := oput_small (a := ⟨e.tag, e.name⟩) ⟨h1, h2⟩
  have a2 := odrop_small (l := e.tags) ⟨h1, h2⟩
  have a3 := mapply_small (a := ⟨e.tag, e.name, e.val, e.atF⟩) ⟨h3, h4⟩
  have a4 := mdrop_small (l := e.tags) ⟨h3, h4⟩
  unfold oapply_m
  rw [e1]
  repeat' split
  all_goals first | exact ⟨Nat.zero_le _, Nat.zero_le _, Nat.zero_le _, Nat.zero_le _⟩ | exact ⟨a1.1, a1.2, Nat.le_trans h3 (by decide), Nat.le_trans h4 (by decide)⟩ | exact ⟨a2.1, a2.2, Nat.le_trans h3 (by decide), Nat.le_trans h4 (by decide)⟩ | exact ⟨Nat.le_trans h1 (by decide), Nat.le_trans h2 (by decide), a3.1, a3.2⟩ | exact ⟨Nat.le_trans h1 (by decide), Nat.le_trans h2 (by decide), a4.1, a4.2⟩ | exact ⟨Nat.le_trans h1 (by decide), Nat.le_trans h2 (by decide), Nat.le_trans h3 (by decide), Nat.le_trans h4 (by decide)⟩
theorem to_small {s : ObjM} (h : s.setF.adds.length ≤ 200 ∧ s.setF.gone.length ≤ 200 ∧ s.map.puts.length ≤ 100 ∧ s.map.gone.length ≤ 200) : (to14_m s).setF.adds.length ≤ 200 ∧ (to14_m s).setF.gone.length ≤ 200 ∧ (to14_m s).map.puts.length ≤ 200 ∧ (to14_m s).map.gone.length ≤ 200 := by
  rw [to14_eq]; omega
section
variable {s : ObjM} {o : OpM} {t : TagM} {more : List UInt8}
theorem bk_to (h : (oprepare_m (to14_m s) (op14_m o) t ⟨1048576, 7⟩).2 = 0) (hw : WfA s o t) (h1 : s.setF.adds.length ≤ 200) (h2 : s.map.puts.length ≤ 100) : Bk (to14_m s) (op14_m o) t more := by
  rw [show op14_m o = o from rfl, to14_eq] at *
  exact bk_of h hw h1 h2
theorem Bk.same (h : Bk s o t more) : sameEffect_m (fromEff_m (oread_m (rnew_m ((owrite_m (oprepare_m s o t ⟨1048576, 7⟩).1).1 ++ more))).1) (fromEff_m (oprepare_m s o t ⟨1048576, 7⟩).1) = true := by
  unfold fromEff_m; rw [h.r]; exact sameEffect_refl _
theorem Bk.left (h : Bk s o t more) : rleft_m (oread_m (rnew_m ((owrite_m (oprepare_m s o t ⟨1048576, 7⟩).1).1 ++ more))).2 = more.length := by
  rw [h.r]; unfold rleft_m advR rnew_m
  simp only [List.length_append]; omega
structure Aft (s : ObjM) (o : OpM) (t : TagM) : Prop where
  small : (oapply_m s (oprepare_m s o t ⟨1048576, 7⟩).1).1.setF.adds.length ≤ 5000 ∧ (oapply_m s (oprepare_m s o t ⟨1048576, 7⟩).1).1.setF.gone.length ≤ 5000 ∧ (oapply_m s (oprepare_m s o t ⟨1048576, 7⟩).1).1.map.puts.length ≤ 5000 ∧ (oapply_m s (oprepare_m s o t ⟨1048576, 7⟩).1).1.map.gone.length ≤ 5000
  set : o.act = 1 → (osay_m (oapply_m s (oprepare_m s o t ⟨1048576, 7⟩).1).1).val = o.val ∨ s.reg.atF.time = 1048576
  count : o.act = 2 → (osay_m (oapply_m s (oprepare_m s o t ⟨1048576, 7⟩).1).1).val = (osay_m s).val + o.val ∧ -1125899906842624 ≤ (osay_m s).val ∧ (osay_m s).val ≤ 1125899906842624 ∧ -1073741824 ≤ o.val ∧ o.val ≤ 1073741824
  gone : o.act = 4 ∨ o.act = 6 → ∀ it ∈ (osay_m (oapply_m s (oprepare_m s o t ⟨1048576, 7⟩).1).1).items, ¬ it.field = o.name
theorem aft_of (hb : Bk s o t more) (h : (oapply_m s (oprepare_m s o t ⟨1048576, 7⟩).1).2 = 0) (hs : s.setF.adds.length ≤ 200 ∧ s.setF.gone.length ≤ 200 ∧ s.map.puts.length ≤ 200 ∧ s.map.gone.length ≤ 200) : Aft s o t := by
  refine ⟨oapply_small hs.1 hs.2.1 hs.2.2.1 hs.2.2.2, fun a => ?_, fun a => ?_, fun a => ?_⟩
  · have := say_set h (hb.act.trans a) (hb.at1 a); rwa [hb.val] at this
  · have := say_count h (hb.act.trans a); rwa [hb.val] at this
  · refine say_gone h (by rw [hb.act]; exact a) o.name (fun q => hb.t4 (hb.act.symm.trans q)) (fun q => hb.t6 (hb.act.symm.trans q)) (by omega)
end
end Go.Proofs.YtdckemiebnfjcaaGreatDoor

/- Walks printed by gen2.py out of our own specifications: what the functions named below do. -/
import Derived.Test.YtmenpoicgoijcaaGreatSc
import Derived.Test.YtmenpoicgoijcaaGreatZM
set_option linter.unusedSimpArgs false
set_option linter.unusedVariables false
namespace Go.Proofs.YtmenpoicgoijcaaGreat
open Go.RowKit
theorem vhas_eq (vv : A8u32M) {id : IdM} (h : 0 ≤ id.seq) : vhas_m vv id = r6has_m vv id := by
  unfold vhas_m r6has_m
  have : icheck_m id = 0 ↔ r5check_m id = 0 := by
    rw [r5check_z]
    unfold icheck_m
    simp only [icheck_c1_iff]
    by_cases c : (id.origin < 0) ∨ (7 < id.origin) ∨ (id.seq < 1) ∨ (1048576 < id.seq)
    · rw [if_pos c, if_pos (by omega)]
    · rw [if_neg c, if_neg (by omega)]
  simp only [this]
theorem ocompact_eq {s : SetM} (hs : SetWf s) (vv : A8u32M) : ocompact_m s vv = r12compact_m s vv := by
  unfold ocompact_m r12compact_m
  rw [ocheck_eq hs]
  split
  · rw [loop_fold0' s.gone (fun acc x => if (!r6has_m vv x.id) = true then acc ++ [x] else acc) (r12compact_L1 s vv) (fun fuel b i _ => by
      rw [r12compact_L1]; by_cases h : r6has_m vv (ix s.gone i).id = true <;> simp [h])]
    simp only [foldl_filter_app (fun x : TagM => !r6has_m vv x.id) (fun x : TagM => x), List.nil_append, List.map_id', deleteF_eq]
    refine congrArg (fun x => ((⟨s.adds, x⟩ : SetM), (0 : Int))) ?_
    unfold cloneTag_m
    apply List.filter_congr
    intro a ha
    congr 1
    exact vhas_eq vv (hs.gone a ha).1
  · rfl
theorem mcompact_eq {s : MapM} (hs : MapWf s) (vv : A8u32M) : mcompact_m s vv = r13compact_m s vv := by
  unfold mcompact_m r13compact_m
  rw [mcheck_eq hs]
  split
  · rw [loop_fold0' s.gone (fun acc x => if (!r6has_m vv x.id) = true then acc ++ [x] else acc) (r13compact_L1 s vv) (fun fuel b i _ => by
      rw [r13compact_L1]; by_cases h : r6has_m vv (ix s.gone i).id = true <;> simp [h])]
    simp only [foldl_filter_app (fun x : TagM => !r6has_m vv x.id) (fun x : TagM => x), List.nil_append, List.map_id', deleteF_eq]
    refine congrArg (fun x => ((⟨s.puts, x⟩ : MapM), (0 : Int))) ?_
    show List.filter _ s.gone = _
    apply List.filter_congr
    intro a ha
    congr 1
    exact vhas_eq vv (hs.gone a ha).1
  · rfl
theorem stamp_ext {a b : StampM} (h1 : a.time = b.time) (h2 : a.origin = b.origin) : a = b := by
  obtain ⟨a1, a2⟩ := a
  obtain ⟨b1, b2⟩ := b
  simp only at h1 h2
  subst h1; subst h2; rfl
theorem lcompare_eq (a b : StampM) : lcompare_m a b = r9compare_m a b := by
  unfold lcompare_m r9compare_m r9compare_c1
  rw [cmpOr2, cmpU_eq, cmpI_eq]
  by_cases h1 : a.time < b.time
  · simp [h1]
  · by_cases h2 : b.time < a.time
    · have hne : ¬ a = b := fun e => by subst e; omega
      have : ¬ a.time = b.time := by omega
      simp [h1, h2, hne, this]
    · have e1 : a.time = b.time := by omega
      by_cases h3 : a.origin < b.origin
      · simp [h1, h2, h3, e1]
      · by_cases h4 : b.origin < a.origin
        · have hne : ¬ a = b := fun e => by subst e; omega
          simp [h1, h2, h3, h4, e1, hne]
        · have e : a = b := stamp_ext e1 (by omega)
          subst e
          simp
theorem cmpL_eq (x y : Int) : cmpL_m x y = if x < y then -1 else if y < x then 1 else 0 := by unfold cmpL_m nanL_m; simp
theorem wmerge_eq (a b : RegM) : wmerge_m a b = r10merge_m a b := by
  unfold wmerge_m r10merge_m r10merge_c1
  rw [cmpOr2, lcompare_eq, cmpL_eq]
  by_cases h0 : r9compare_m a.atF b.atF = 0
  · rw [if_pos h0]
    by_cases h1 : a.val < b.val
    · simp [h0, h1]; try (intro; omega)
    · by_cases h2 : b.val < a.val
      · simp [h0, h1, h2] <;> omega
      · simp [h0, h1, h2] <;> omega
  · rw [if_neg h0]
    by_cases h1 : r9compare_m a.atF b.atF < 0
    · rw [if_pos h1, if_neg (by simp [h0]; omega)]
    · rw [if_neg h1, if_pos (by simp [h0]; omega)]
theorem r9check_or (s : StampM) : r9check_m s = 0 ∨ r9check_m s = 2 := by unfold r9check_m; split <;> simp
theorem cmpOrE2 (a b : Int) : cmpOrE_m [a, b] = if a = 0 then b else a := by
  unfold cmpOrE_m
  rw [show (((([a, b] : List Int).length : Int) - (0 : Int)).toNat + 1) = 3 from rfl]
  simp only [cmpOrE_L1, ix, List.length_cons, List.length_nil]
  by_cases ha : a = 0 <;> by_cases hb : b = 0 <;> simp [ha, hb]
theorem wapply_eq (s : RegM) (x : Int) (at_ : StampM) : wapply_m s x at_ = r10apply_m s x at_ := by
  unfold wapply_m r10apply_m r10apply_c1
  rw [cmpOrE2, lcheck_eq, lcheck_eq, wmerge_eq]
  rcases r9check_or s.atF with h1 | h1
  · rcases r9check_or at_ with h2 | h2
    · by_cases h3 : at_.time = 0
      · simp [h1, h2, h3]
      · simp [h1, h2, h3]
    · simp [h1, h2]
  · simp [h1]
theorem r11check_z (s : NumM) : r11check_m s = if 0 ≤ s.plus ∧ s.plus ≤ 1125899906842624 ∧ 0 ≤ s.minus ∧ s.minus ≤ 1125899906842624 then 0 else 2 := by
  unfold r11check_m
  simp only [r11check_c1_iff]
  by_cases h : 0 ≤ s.plus ∧ s.plus ≤ 1125899906842624 ∧ 0 ≤ s.minus ∧ s.minus ≤ 1125899906842624
  · rw [if_pos h, if_neg (by omega)]
  · rw [if_neg h, if_pos (by omega)]
theorem ncheck_r (s : NumM) : ncheck_m s = r11check_m s := by rw [ncheck_eq, r11check_z]
theorem tplus_z {a b : Int} (h : -1125899906842624 ≤ a ∧ a ≤ 1125899906842624 ∧ -1125899906842624 ≤ b ∧ b ≤ 1125899906842624) : tplus_m a b = if -1125899906842624 ≤ a + b ∧ a + b ≤ 1125899906842624 then (a + b, 0) else (0, 12) := by
  unfold tplus_m
  rw [within2, within1, if_pos (decide_eq_true h)]
  simp only [decide_eq_true_eq]
theorem napply_eq (s : NumM) (d : Int) : napply_m s d = r11apply_m s d := by
  unfold napply_m r11apply_m
  rw [ncheck_r]
  by_cases c0 : r11check_m s = 0
  · rw [if_pos c0, if_pos c0]
    have hz := c0
    rw [r11check_z] at hz
    have hb : 0 ≤ s.plus ∧ s.plus ≤ 1125899906842624 ∧ 0 ≤ s.minus ∧ s.minus ≤ 1125899906842624 := by
      by_cases h : 0 ≤ s.plus ∧ s.plus ≤ 1125899906842624 ∧ 0 ≤ s.minus ∧ s.minus ≤ 1125899906842624
      · exact h
      · rw [if_neg h] at hz; cases hz
    have hc : (napply_c1 s d = true) ↔ (d < (-1073741824) ∨ 1073741824 < d) := napply_c1_iff s d
    simp only [hc]
    by_cases c1 : d < (-1073741824)
    · rw [if_pos (.inl c1), if_pos c1]
    · by_cases c2 : 1073741824 < d
      · rw [if_pos (.inr c2), if_neg c1, if_pos c2]
      · rw [if_neg (by omega), if_neg c1, if_neg c2]
        by_cases c3 : d < 0
        · have q : ¬ (0 ≤ d) := by omega
          rw [if_pos c3, if_neg q, tplus_z (by omega), r11check_z]
          simp only
          by_cases c4 : s.minus - d ≤ 1125899906842624
          · have e1 : (-1125899906842624 : Int) ≤ s.minus + (0 - d) ∧ s.minus + (0 - d) ≤ 1125899906842624 := by omega
            have e2 : 0 ≤ s.plus ∧ s.plus ≤ 1125899906842624 ∧ 0 ≤ s.minus - d ∧ s.minus - d ≤ 1125899906842624 := by omega
            rw [if_pos e1, if_pos e2]
            simp only [if_true]
            rw [show s.minus + (0 - d) = s.minus - d by omega]
          · have e1 : ¬ ((-1125899906842624 : Int) ≤ s.minus + (0 - d) ∧ s.minus + (0 - d) ≤ 1125899906842624) := by omega
            have e2 : ¬ (0 ≤ s.plus ∧ s.plus ≤ 1125899906842624 ∧ 0 ≤ s.minus - d ∧ s.minus - d ≤ 1125899906842624) := by omega
            rw [if_neg e1, if_neg e2]
            simp
        · have q : 0 ≤ d := by omega
          rw [if_neg c3, if_pos q, tplus_z (by omega), r11check_z]
          simp only
          by_cases c4 : s.plus + d ≤ 1125899906842624
          · have e1 : (-1125899906842624 : Int) ≤ s.plus + d ∧ s.plus + d ≤ 1125899906842624 := by omega
            have e2 : 0 ≤ s.plus + d ∧ s.plus + d ≤ 1125899906842624 ∧ 0 ≤ s.minus ∧ s.minus ≤ 1125899906842624 := by omega
            rw [if_pos e1, if_pos e2]
            simp
          · have e1 : ¬ ((-1125899906842624 : Int) ≤ s.plus + d ∧ s.plus + d ≤ 1125899906842624) := by omega
            have e2 : ¬ (0 ≤ s.plus + d ∧ s.plus + d ≤ 1125899906842624 ∧ 0 ≤ s.minus ∧ s.minus ≤ 1125899906842624) := by omega
            rw [if_neg e1, if_neg e2]
            simp
  · rw [if_neg c0, if_neg c0]
    have : r11check_m s = 2 := by rw [r11check_z] at *; split at c0 <;> simp_all
    rw [this]
theorem nvalue_eq (s : NumM) : nvalue_m s = r11value_m s := by unfold nvalue_m r11value_m; rw [ncheck_r]
def sLt (a b : List UInt8) : Bool := decide (a < b)
theorem sLt_tr (a b c : List UInt8) (h1 : sLt a b = true) (h2 : sLt b c = true) : sLt a c = true := by
  simp only [sLt, decide_eq_true_eq] at *; exact List.lt_trans h1 h2
theorem sLt_tot (a b : List UInt8) (h1 : sLt a b = false) (h2 : sLt b a = false) : a = b := by
  simp only [sLt, decide_eq_false_iff_not, List.not_lt] at *; exact List.le_antisymm h2 h1
theorem sLt_as (a b : List UInt8) (h1 : sLt a b = true) : sLt b a = false := by
  simp only [sLt, decide_eq_true_eq, decide_eq_false_iff_not] at *; exact fun h => List.lt_irrefl _ (List.lt_trans h1 h)
def insS (l : List (List UInt8)) (e : List UInt8) : List (List UInt8) := if ((l.takeWhile (fun x => sLt x e)).length < l.length) ∧ l[(l.takeWhile (fun x => sLt x e)).length]? = some e then l else insL sLt l e
theorem insS_facts {l : List (List UInt8)} (h : l.Pairwise (fun a b => sLt a b = true)) (e : List UInt8) : (insS l e).Pairwise (fun a b => sLt a b = true) ∧ (∀ x, x ∈ insS l e ↔ x = e ∨ x ∈ l) := by
  unfold insS
  split
  · rename_i hc
    have hm : e ∈ l := List.mem_of_getElem? hc.2
    refine ⟨h, fun x => ⟨.inr, ?_⟩⟩
    rintro (rfl | hx)
    · exact hm
    · exact hx
  · rename_i hc
    refine ⟨insL_strict sLt sLt_tot sLt_tr h (fun x hx q => ?_), insL_mem sLt l e⟩
    subst q
    refine hc ?_
    have e1 := List.takeWhile_append_dropWhile (p := fun y => sLt y x) (l := l)
    have hxd : x ∈ l.dropWhile (fun y => sLt y x) := by
      rw [← e1] at hx
      rcases List.mem_append.1 hx with h1 | h1
      · have := List.all_eq_true.1 (List.all_takeWhile (p := fun y => sLt y x) (l := l)) x h1
        simp [sLt] at this
        exact absurd this (List.lt_irrefl x)
      · exact h1
    have hlen := congrArg List.length e1
    rw [List.length_append] at hlen
    have hpos : 0 < (l.dropWhile (fun y => sLt y x)).length := List.length_pos_of_mem hxd
    refine ⟨by omega, ?_⟩
    have hd := drop_tw (fun y => sLt y x) l
    cases hdw : l.dropWhile (fun y => sLt y x) with
    | nil => rw [hdw] at hpos; simp at hpos
    | cons a r =>
      rw [hdw] at hd hxd
      have hg : l[(l.takeWhile (fun y => sLt y x)).length]? = some a := by
        have := congrArg (fun q => q[0]?) hd
        simpa using this
      rw [hg]
      rcases List.mem_cons.1 hxd with h1 | h1
      · rw [h1]
      · exfalso
        have hp : (a :: r).Pairwise (fun a b => sLt a b = true) := by rw [← hdw]; exact h.sublist (List.dropWhile_sublist _)
        have h2 := (List.pairwise_cons.1 hp).1 x h1
        have h3 : sLt a x = false := by
          have := List.head?_dropWhile_not (fun y => sLt y x) l
          rw [hdw, List.head?_cons] at this
          exact this
        rw [h2] at h3; cases h3
theorem insS_fold : ∀ (es l : List (List UInt8)), l.Pairwise (fun a b => sLt a b = true) → (es.foldl insS l).Pairwise (fun a b => sLt a b = true) ∧ (∀ x, x ∈ es.foldl insS l ↔ x ∈ l ∨ x ∈ es)
  | [], l, h => ⟨h, fun x => by simp⟩
  | e :: es, l, h => by
    have h1 := insS_facts h e
    have ih := insS_fold es (insS l e) h1.1
    rw [List.foldl_cons]
    refine ⟨ih.1, fun x => ?_⟩
    rw [ih.2, h1.2, List.mem_cons]
    constructor
    · rintro ((h | h) | h)
      · exact .inr (.inl h)
      · exact .inl h
      · exact .inr (.inr h)
    · rintro (h | h | h)
      · exact .inl (.inr h)
      · exact .inl (.inl h)
      · exact .inr h
theorem r12elems_z (s : SetM) : r12elems_m s = if r12check_m s = 0 then (s.adds.map (·.elem)).foldl insS [] else [] := by
  unfold r12elems_m
  rw [loop_fold0 s.adds (fun acc x => insS acc x.elem) (r12elems_L1 s) (fun fuel b i h0 => by
    rw [r12elems_L1]
    split
    · rename_i hi
      have h := loop_while0 b (fun x => sLt x (ix s.adds i).elem) (r12elems_L2 s b i) (fun fuel j hj => by
        rw [r12elems_L2]
        have : (r12elems_c2 s b i j = true) ↔ (j < (b.length : Int) ∧ sLt (ix b j) (ix s.adds i).elem = true) := by
          unfold r12elems_c2 sLt; by_cases hj : j < (b.length : Int) <;> simp [hj]
        simp only [this])
      rw [h]
      simp only [Int.toNat_natCast, List.nil_append, take_tw, drop_tw]
      have hc : (r12elems_c1 s b i ((b.takeWhile (fun x => sLt x (ix s.adds i).elem)).length : Int) = true) ↔ (((b.takeWhile (fun x => sLt x (ix s.adds i).elem)).length < b.length) ∧ b[(b.takeWhile (fun x => sLt x (ix s.adds i).elem)).length]? = some (ix s.adds i).elem) := by
        unfold r12elems_c1
        by_cases hq : (b.takeWhile (fun x => sLt x (ix s.adds i).elem)).length < b.length
        · rw [if_pos (by omega), ix_at b hq, beq_iff_eq, List.getElem?_eq_getElem hq]
          simp [hq]
        · rw [if_neg (by omega)]; simp [hq]
      simp only [hc]
      unfold insS insL
      split <;> rfl
    · rfl)]
  simp only [List.foldl_map]
theorem elems_eq {s : SetM} (hs : SetWf s) : oelems_m s = r12elems_m s := by
  rw [oelems_z, r12elems_z, ocheck_eq hs]
  split
  · have h1 := insS_fold (s.adds.map (·.elem)) [] List.Pairwise.nil
    have hp : (sortS (s.adds.map (·.elem))).Perm (s.adds.map (·.elem)) := List.mergeSort_perm _ _
    have hs2 : (sortS (s.adds.map (·.elem))).Pairwise (fun a b => sLt b a = false) := by
      have := List.pairwise_mergeSort (le := fun (x y : List UInt8) => decide (x ≤ y)) (fun a b c h1 h2 => by
        simp only [decide_eq_true_eq] at *; exact List.le_trans h1 h2) (fun a b => by
        simp only [Bool.or_eq_true, decide_eq_true_eq]; exact List.le_total _ _) (s.adds.map (·.elem))
      refine List.Pairwise.imp ?_ this
      intro a b h
      simp only [decide_eq_true_eq] at h
      simp only [sLt, decide_eq_false_iff_not, List.not_lt]; exact h
    refine strict_ext sLt sLt_as (dd_strict sLt sLt_tot sLt_tr _ hs2) h1.1 fun x => ?_
    rw [dd_mem, h1.2, hp.mem_iff]; simp
  · rfl
end Go.Proofs.YtmenpoicgoijcaaGreat

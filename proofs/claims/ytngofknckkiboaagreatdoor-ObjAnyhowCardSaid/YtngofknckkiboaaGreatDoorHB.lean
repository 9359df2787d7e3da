/- Walks printed by gen2.py out of our own specifications: what the functions named below do. -/
import Derived.Test.YtngofknckkiboaaGreatDoorSc
import Derived.Test.YtngofknckkiboaaGreatDoorHA
import Derived.Test.YtngofknckkiboaaGreatDoorZ11
import Derived.Test.YtngofknckkiboaaGreatDoorZP
set_option linter.unusedSimpArgs false
set_option linter.unusedVariables false
namespace Go.Proofs.YtngofknckkiboaaGreatDoor
open Go.RowKit

theorem bs_tw {α R : Type} [Inhabited α] (x : List α) (p : α → Bool) (c : α → Int) (hc : ∀ a, c a < 0 ↔ p a = true) (L : Nat → Int → Int → R ⊕ (Int × Int)) (hL : ∀ fuel i j, L (fuel + 1) i j = if i < j then (if c (ix x ((i + j) / 2)) < 0 then L fuel ((i + j) / 2 + 1) j else L fuel i ((i + j) / 2)) else .inr (i, j))
    (mono : x.Pairwise (fun a b => p b = true → p a = true)) : L (((x.length : Int) - (0 : Int)).toNat + 1) 0 x.length = .inr (((x.takeWhile p).length : Int), ((x.takeWhile p).length : Int)) := by
  obtain ⟨q, h, h0, h1, h2, h3⟩ := bs_spec x c L hL (fun a b ha hab hb hcb => by
    rw [hc] at *
    have := List.pairwise_iff_getElem.1 mono a.toNat b.toNat (by omega) (by omega) (by omega)
    rw [← ix_at x (by omega), ← ix_at x (by omega), show ((a.toNat : Nat) : Int) = a by omega, show ((b.toNat : Nat) : Int) = b by omega] at this
    exact this hcb) (((x.length : Int) - (0 : Int)).toNat + 1) 0 x.length (by omega) (by omega) (by omega) (by omega) (fun _ _ _ => by omega) (fun _ _ _ => by omega)
  have := tw_of p x q.toNat (fun k hk hkl => by
    have := (hc _).1 (h2 k (by omega) (by omega)); rw [ix_at x hkl] at this; exact this) (fun k hk hkl => by
    have := h3 k (by omega) (by omega); rw [hc, ix_at x hkl] at this; simpa using this) (by omega)
  rw [h, this]
  congr 1
  have : ((q.toNat : Nat) : Int) = q := by omega
  rw [this]
theorem rises_mono {α : Type} (f : α → TagM) {l : List α} (h : Rises (l.map f)) (t : TagM) : l.Pairwise (fun a b => tagLt (f b) t = true → tagLt (f a) t = true) := by
  unfold Rises at h
  rw [List.pairwise_map] at h
  exact h.imp fun {a b} hab hb => tagLt_trans _ _ _ hab hb
theorem bsearchAdd_tw {l : List AddM} (h : Rises (l.map (·.tag))) (t : TagM) : bsearchAdd_m l t obyTag_m = (((l.takeWhile (fun a => tagLt a.tag t)).length : Int), decide (t ∈ l.map (·.tag))) := by
  unfold bsearchAdd_m
  rw [bs_tw l (fun a => tagLt a.tag t) (fun a => obyTag_m a t) (fun a => by unfold obyTag_m; rw [icompareTag_eq]; exact tagCmp_neg _ _) (bsearchAdd_L1 l t obyTag_m) (fun _ _ _ => rfl) (rises_mono (fun a : AddM => a.tag) h t)]
  simp only
  have e := List.takeWhile_append_dropWhile (p := fun a : AddM => tagLt a.tag t) (l := l)
  have hd := drop_tw (fun a : AddM => tagLt a.tag t) l
  split
  · rename_i hlt
    have hlt' : (l.takeWhile (fun a => tagLt a.tag t)).length < l.length := by omega
    congr 1
    rw [ix_at l hlt', Bool.eq_iff_iff, beq_iff_eq, decide_eq_true_eq]
    unfold obyTag_m
    rw [icompareTag_eq, tagCmp_zero]
    have hdc := List.drop_eq_getElem_cons hlt'
    rw [hd] at hdc
    constructor
    · intro he; rw [← he]; exact List.mem_map_of_mem (List.getElem_mem _)
    · intro hm
      obtain ⟨a, ha, rfl⟩ := List.mem_map.1 hm
      rw [← e] at ha
      rcases List.mem_append.1 ha with h1 | h1
      · have := List.all_eq_true.1 (List.all_takeWhile (p := fun x : AddM => tagLt x.tag a.tag) (l := l)) a h1
        rw [tagLt_irrefl] at this; cases this
      · rw [hdc] at h1
        rcases List.mem_cons.1 h1 with h2 | h2
        · rw [← h2]
        · exfalso
          have hr : Rises ((l.dropWhile (fun x => tagLt x.tag a.tag)).map (·.tag)) := by
            unfold Rises at h ⊢
            exact h.sublist ((List.dropWhile_sublist _).map _)
          rw [hdc] at hr
          unfold Rises at hr
          rw [List.map_cons, List.pairwise_cons] at hr
          have h3 := hr.1 a.tag (List.mem_map_of_mem h2)
          have h4 : tagLt (l[(l.takeWhile (fun x => tagLt x.tag a.tag)).length]).tag a.tag = false := by
            have := List.head?_dropWhile_not (fun x : AddM => tagLt x.tag a.tag) l
            rw [hdc, List.head?_cons] at this
            exact this
          rw [h3] at h4; cases h4
  · rename_i hge
    congr 1
    symm; rw [decide_eq_false_iff_not]
    intro hm
    obtain ⟨a, ha, rfl⟩ := List.mem_map.1 hm
    have hlen := congrArg List.length e
    rw [List.length_append] at hlen
    have : l.dropWhile (fun x => tagLt x.tag a.tag) = [] := List.eq_nil_of_length_eq_zero (by omega)
    rw [this, List.append_nil] at e
    rw [← e] at ha
    have := List.all_eq_true.1 (List.all_takeWhile (p := fun x : AddM => tagLt x.tag a.tag) (l := l)) a ha
    rw [tagLt_irrefl] at this; cases this
open Go.Shelf Go.Lib Go.Sort in
theorem sortTag_facts (l : List TagM) : Rises (compactTag_m (sortF icompareTag_m l)) ∧ (∀ x, x ∈ compactTag_m (sortF icompareTag_m l) ↔ x ∈ l) := by
  rw [compactTag_eq]
  have e : ∀ a b, ltOf icompareTag_m a b = tagLt a b := fun a b => by
    unfold ltOf; rw [icompareTag_eq, Bool.eq_iff_iff, decide_eq_true_iff]; exact tagCmp_neg a b
  have hp : (sortF icompareTag_m l).Perm l := List.mergeSort_perm _ _
  have hs : (sortF icompareTag_m l).Pairwise (fun a b => tagLt b a = false) := by
    have := List.pairwise_mergeSort (le := fun x y => !(ltOf icompareTag_m) y x) (fun a b c h1 h2 => by
      simp only [e, Bool.not_eq_true'] at *
      rcases tagLt_tri c a with h | h | h
      · rcases tagLt_tri b a with g | g | g
        · rw [g] at h1; cases h1
        · subst g; rw [h] at h2; cases h2
        · have := tagLt_trans c a b h g; rw [this] at h2; cases h2
      · subst h; exact tagLt_irrefl c
      · exact tagLt_asymm h) (fun a b => by
      simp only [e, Bool.or_eq_true, Bool.not_eq_true']
      rcases tagLt_tri a b with h | h | h
      · exact .inl (tagLt_asymm h)
      · subst h; exact .inl (tagLt_irrefl a)
      · exact .inr (tagLt_asymm h)) l
    exact this.imp fun {a b} h => by simpa only [e, Bool.not_eq_true'] using h
  refine ⟨dd_strict tagLt tagTot tagLt_trans _ hs, fun x => by rw [dd_mem]; exact hp.mem_iff⟩
theorem bsearch_tw {l : List TagM} (h : Rises l) (t : TagM) : bsearch_m l t icompareTag_m = (((l.takeWhile (fun a => tagLt a t)).length : Int), decide (t ∈ l)) := by
  obtain ⟨q, e, h0, h1, h2, h3⟩ := bsearch_spec h t
  rw [e]
  congr 1
  have := tw_of (fun a => tagLt a t) l q.toNat (fun k hk hkl => by
    have := h2 k (by omega) (by omega); rw [ix_at l hkl] at this; exact this) (fun k hk hkl => by
    have := h3 k (by omega) (by omega); rw [ix_at l hkl] at this; exact this) (by omega)
  rw [this]; omega
theorem tw_map {α β : Type} (f : α → β) (p : β → Bool) (l : List α) : ((l.map f).takeWhile p).length = (l.takeWhile (fun x => p (f x))).length := by
  rw [List.takeWhile_map, List.length_map]; rfl


structure SetFine (s : SetM) : Prop where
  la : s.adds.length ≤ 4096
  lg : s.gone.length ≤ 4096
  ta : ∀ a ∈ s.adds, icheckTag_m a.tag = 0
  tg : ∀ t ∈ s.gone, icheckTag_m t = 0
  ra : Rises (s.adds.map (·.tag))
  rg : Rises s.gone
  el : ∀ a ∈ s.adds, oelem_m a.elem = true
  dj : ∀ a ∈ s.adds, a.tag ∉ s.gone
theorem ocheck_fine {s : SetM} (h : SetFine s) : ocheck_m s = 0 := by
  have n1 : ¬ ocheck_c1 s = true := by rw [ocheck_c1_iff]; have := h.la; have := h.lg; omega
  have n2 : ¬ ocheck_c2 s = true := by
    rw [ocheck_c2_iff, containsF_eq, containsF_eq]
    rintro (q | q)
    · obtain ⟨a, ha, h2⟩ := List.any_eq_true.1 q; unfold ocheck1_m onotTag_m at h2; rw [h.ta a ha] at h2; simp at h2
    · obtain ⟨a, ha, h2⟩ := List.any_eq_true.1 q; unfold onotTag_m at h2; rw [h.tg a ha] at h2; simp at h2
  have n3 : ¬ ocheck_c3 s = true := by
    rw [ocheck_c3_iff]
    rintro (q | q)
    · exact q ((strictTag_iff s.gone).2 h.rg)
    · rw [containsF_eq] at q; obtain ⟨a, ha, h2⟩ := List.any_eq_true.1 q
      unfold ocheck3_m at h2; rw [if_pos (h.el a ha)] at h2; unfold ogone_m at h2; rw [bs_mem h.rg] at h2; exact h.dj a ha (of_decide_eq_true h2)
  unfold ocheck_m
  rw [if_neg n1, if_neg n2, if_pos ((strictAdd_iff s.adds).2 h.ra), if_neg n3]
theorem oput_fine {s : SetM} (h : SetFine s) {a : AddM} (ht : icheckTag_m a.tag = 0) (he : oelem_m a.elem = true) (hl : s.adds.length < 4096) (hf : a.tag ∉ s.adds.map (·.tag)) :
    oput_m s a = (⟨if a.tag ∈ s.gone then s.adds else insK (·.tag) s.adds a, s.gone⟩, 0) := by
  unfold oput_m
  rw [if_pos (ocheck_fine h), if_neg (by unfold onotTag_m; rw [ht]; simp), if_pos he, bsearchAdd_tw h.ra]
  have hg : (ogone_m s a.tag = true) ↔ a.tag ∈ s.gone := by unfold ogone_m; rw [bs_mem h.rg, decide_eq_true_eq]
  simp only [decide_eq_true_eq, hg]
  rw [if_neg hf]
  by_cases c5 : a.tag ∈ s.gone
  · rw [if_pos c5, if_pos c5]; rfl
  · rw [if_neg c5, if_neg c5, if_neg (by omega)]
    unfold insertAdd_m cloneAdd_m cloneTag_m insK insL
    simp only [Int.toNat_natCast, take_tw, drop_tw]
/-- All tags that were taken, and those of one effect. -/
def dropG (g l : List TagM) : List TagM := compactTag_m (sortF icompareTag_m (concatTag_m g l))
theorem dropG_facts (g l : List TagM) : Rises (dropG g l) ∧ (∀ t, t ∈ dropG g l ↔ t ∈ g ∨ t ∈ l) ∧ (dropG g l).length ≤ g.length + l.length := by
  have h := sortTag_facts (concatTag_m g l)
  refine ⟨h.1, fun t => ?_, ?_⟩
  · unfold dropG; rw [h.2 t]; unfold concatTag_m; exact List.mem_append
  · unfold dropG; rw [compactTag_eq]
    have := dd_len (sortF icompareTag_m (concatTag_m g l))
    rw [sortF_len] at this
    unfold concatTag_m at this ⊢
    rw [List.length_append] at this; exact this
theorem odrop_fine {s : SetM} (h : SetFine s) {l : List TagM} (hl : ∀ t ∈ l, icheckTag_m t = 0) (hn : l.length ≤ 4096) (hg : s.gone.length + l.length ≤ 4096) :
    odrop_m s l = (⟨s.adds.filter (fun a => !decide (a.tag ∈ dropG s.gone l)), dropG s.gone l⟩, 0) := by
  have hf := dropG_facts s.gone l
  unfold odrop_m
  rw [if_pos (ocheck_fine h), if_neg (by omega), if_neg (by
    rw [containsF_eq]; intro q; obtain ⟨a, ha, h2⟩ := List.any_eq_true.1 q; unfold onotTag_m at h2; rw [hl a ha] at h2; simp at h2)]
  rw [show compactTag_m (sortF icompareTag_m (concatTag_m s.gone l)) = dropG s.gone l from rfl, if_neg (show ¬ 4096 < ((dropG s.gone l).length : Int) by omega)]
  unfold cloneAdd_m
  rw [deleteF_eq]
  have e : (fun x0 : AddM => !odrop1_m x0 ⟨[], dropG s.gone l⟩) = (fun a => !decide (a.tag ∈ dropG s.gone l)) := by
    funext a; unfold odrop1_m ogone_m; rw [bs_mem hf.1]
  show (SetM.mk (s.adds.filter (fun x0 => !odrop1_m x0 ⟨[], dropG s.gone l⟩)) (dropG s.gone l), (0 : Int)) = _
  rw [e]
structure MapFine (s : MapM) : Prop where
  la : s.puts.length ≤ 4096
  lg : s.gone.length ≤ 4096
  ta : ∀ a ∈ s.puts, icheckTag_m a.tag = 0
  tg : ∀ t ∈ s.gone, icheckTag_m t = 0
  ra : Rises (s.puts.map (·.tag))
  rg : Rises s.gone
  el : ∀ a ∈ s.puts, mright_m a = true
  dj : ∀ a ∈ s.puts, a.tag ∉ s.gone
theorem mcheck_fine {s : MapM} (h : MapFine s) : mcheck_m s = 0 := by
  have n1 : ¬ mcheck_c1 s = true := by rw [mcheck_c1_iff]; have := h.la; have := h.lg; omega
  have n2 : ¬ mcheck_c2 s = true := by
    rw [mcheck_c2_iff, containsF_eq, containsF_eq, mtags_eq]
    rintro (q | q)
    · obtain ⟨t, ht, h2⟩ := List.any_eq_true.1 q; obtain ⟨a, ha, rfl⟩ := List.mem_map.1 ht; unfold mnotTag_m at h2; rw [h.ta a ha] at h2; simp at h2
    · obtain ⟨a, ha, h2⟩ := List.any_eq_true.1 q; unfold mnotTag_m at h2; rw [h.tg a ha] at h2; simp at h2
  have n3 : ¬ mcheck_c3 s = true := by
    rw [mcheck_c3_iff, mtags_eq, mrise_eq, mrise_eq, strictTag_iff, strictTag_iff]
    rintro (q | q)
    · exact q h.ra
    · exact q h.rg
  obtain ⟨q5, l5⟩ := loop_all0 s.puts (fun p => mright_m p && !decide (p.tag ∈ s.gone)) 3 (mcheck_L1 s) (fun fuel i _ => by
    rw [mcheck_L1]
    split
    · have := mcheck_c4_iff s i
      rw [has_eq h.rg] at this
      by_cases x1 : mright_m (ix s.puts i) = true <;> by_cases x2 : (ix s.puts i).tag ∈ s.gone <;> simp [this, x1, x2]
    · rfl)
  unfold mcheck_m
  rw [if_neg n1, if_neg n2, if_neg n3, l5, if_pos (by
    rw [List.all_eq_true]; intro a ha; simp [h.el a ha, h.dj a ha])]
theorem mapply_fine {s : MapM} (h : MapFine s) {a : PutM} (ht : icheckTag_m a.tag = 0) (he : mright_m a = true) (hl : s.puts.length < 4096) (hf : a.tag ∉ s.puts.map (·.tag)) :
    mapply_m s a = (⟨if a.tag ∈ s.gone then s.puts else insK (·.tag) s.puts a, s.gone⟩, 0) := by
  unfold mapply_m
  rw [if_pos (mcheck_fine h), if_neg (by unfold mnotTag_m; rw [ht]; simp), if_pos he, mtags_eq, bsearch_tw h.ra]
  have hg : (mhas_m s.gone a.tag = true) ↔ a.tag ∈ s.gone := by rw [has_eq h.rg, decide_eq_true_eq]
  simp only [decide_eq_true_eq, hg]
  rw [if_neg hf]
  by_cases c5 : a.tag ∈ s.gone
  · rw [if_pos c5, if_pos c5]; rfl
  · rw [if_neg c5, if_neg c5, if_neg (by omega), tw_map]
    unfold insertPut_m mown_m clonePut_m cloneTag_m insK insL
    simp only [Int.toNat_natCast, take_tw, drop_tw]
theorem mdrop_fine {s : MapM} (h : MapFine s) {l : List TagM} (hl : ∀ t ∈ l, icheckTag_m t = 0) (hn : l.length ≤ 4096) (hg : s.gone.length + l.length ≤ 4096) :
    mdrop_m s l = (⟨s.puts.filter (fun a => !decide (a.tag ∈ dropG s.gone l)), dropG s.gone l⟩, 0) := by
  have hf := dropG_facts s.gone l
  unfold mdrop_m
  rw [if_pos (mcheck_fine h), if_neg (by omega), if_neg (by
    rw [containsF_eq]; intro q; obtain ⟨a, ha, h2⟩ := List.any_eq_true.1 q; unfold mnotTag_m at h2; rw [hl a ha] at h2; simp at h2)]
  rw [show compactTag_m (sortF icompareTag_m (concatTag_m s.gone l)) = dropG s.gone l from rfl, if_neg (show ¬ 4096 < ((dropG s.gone l).length : Int) by omega)]
  unfold clonePut_m
  rw [deleteF_eq]
  have e : (fun x0 : PutM => !mdrop1_m x0 (dropG s.gone l)) = (fun a => !decide (a.tag ∈ dropG s.gone l)) := by
    funext a; unfold mdrop1_m; rw [has_eq hf.1]
  show (MapM.mk (s.puts.filter (fun x0 => !mdrop1_m x0 (dropG s.gone l))) (dropG s.gone l), (0 : Int)) = _
  rw [e]

end Go.Proofs.YtngofknckkiboaaGreatDoor

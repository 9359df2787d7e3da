/- Walks printed by gen2.py out of our own specifications: what the functions named below do. -/
import Derived.Test.YtmenpoicgoijcaaGreatSc
import Derived.Test.YtmenpoicgoijcaaGreatZC
import Derived.Test.YtmenpoicgoijcaaGreatZT
set_option linter.unusedSimpArgs false
set_option linter.unusedVariables false
namespace Go.Proofs.YtmenpoicgoijcaaGreat
open Go.RowKit
theorem ix_get {α : Type} [Inhabited α] (l : List α) {j : Int} (h0 : 0 ≤ j) (h1 : j < l.length) : l.drop j.toNat = ix l j :: l.drop (j + 1).toNat := by
  have hl : j.toNat < l.length := by omega
  rw [List.drop_eq_getElem_cons hl, show (j + 1).toNat = j.toNat + 1 by omega]
  unfold ix; rw [List.getElem?_eq_getElem hl]; rfl
theorem take_set_succ {α : Type} (l : List α) {i : Int} (v : α) (h0 : 0 ≤ i) (h1 : i < l.length) : (l.set i.toNat v).take (i + 1).toNat = l.take i.toNat ++ [v] := by
  have hl : i.toNat < l.length := by omega
  rw [show (i + 1).toNat = i.toNat + 1 by omega, List.take_add_one, List.take_set_of_le (Nat.le_refl _), List.getElem?_set_self hl]; rfl
theorem drop_set_lt {α : Type} (l : List α) {i j : Int} (v : α) (h0 : 0 ≤ i) (h : i < j) : (l.set i.toNat v).drop j.toNat = l.drop j.toNat := List.drop_set_of_lt (by omega)
theorem deleteF_L1_spec {α : Type} [Inhabited α] [DecidableEq α] (s : List α) (del : α → Bool) : ∀ (fuel : Nat) (i j : Int) (r : List α), 0 ≤ i → i < j → j ≤ s.length → r.length = s.length → ((s.length : Int) - j).toNat < fuel →
    ∃ i' r' j', deleteF_L1 s del fuel i j r = .inr (i', j', r') ∧ r'.length = s.length ∧ 0 ≤ i' ∧ i' ≤ s.length ∧ r'.take i'.toNat = r.take i.toNat ++ (r.drop j.toNat).filter (fun x => !del x)
  | 0, i, j, r, _, _, _, _, h => by omega
  | fuel + 1, i, j, r, h0, h1, h2, hr, h => by
    unfold deleteF_L1
    split
    · rename_i hj
      have hd := ix_get r (j := j) (by omega) (by omega)
      split
      · rename_i hdel
        obtain ⟨i', r', j', a, b, c, c2, d⟩ := deleteF_L1_spec s del fuel i (j + 1) r h0 (by omega) (by omega) hr (by omega)
        refine ⟨i', r', j', a, b, c, c2, ?_⟩
        rw [d, hd, List.filter_cons_of_neg (by simp [hdel])]
      · rename_i hdel
        obtain ⟨i', r', j', a, b, c, c2, d⟩ := deleteF_L1_spec s del fuel (i + 1) (j + 1) (r.set i.toNat (ix r j)) (by omega) (by omega) (by omega) (by simpa using hr) (by omega)
        refine ⟨i', r', j', a, b, c, c2, ?_⟩
        rw [d, take_set_succ r _ h0 (by omega), drop_set_lt r _ h0 (by omega), hd, List.filter_cons_of_pos (by simpa using hdel)]
        simp
    · have : j = s.length := by omega
      subst this
      refine ⟨i, r, _, rfl, hr, h0, by omega, ?_⟩
      rw [List.drop_of_length_le (by omega)]; simp
theorem deleteF_eq {α : Type} [Inhabited α] [DecidableEq α] (s : List α) (del : α → Bool) : deleteF_m s del = s.filter (fun x => !del x) := by
  unfold deleteF_m
  rcases indexF_cases s del with ⟨a, b, c, d⟩ | ⟨a, b⟩
  · rw [if_neg (by omega)]
    obtain ⟨i', r', j', e1, e2, e3, e4, e5⟩ := deleteF_L1_spec s del (((s.length : Int) - (indexF_m s del + 1)).toNat + 1) (indexF_m s del) (indexF_m s del + 1) s a (by omega) (by omega) rfl (by omega)
    rw [e1]
    simp only
    rw [List.take_append_of_le_length (by rw [List.length_take]; omega), List.take_take, Nat.min_self, e5]
    have hs : s = s.take (indexF_m s del).toNat ++ ix s (indexF_m s del) :: s.drop (indexF_m s del + 1).toNat := by
      rw [← ix_get s a b, List.take_append_drop]
    have h1 : (s.take (indexF_m s del).toNat).filter (fun x => !del x) = s.take (indexF_m s del).toNat := by
      rw [List.filter_eq_self]
      intro x hx
      obtain ⟨k, hk⟩ := List.getElem?_of_mem hx
      rw [List.getElem?_take] at hk
      split at hk
      · rename_i hlt
        have := d (k : Int) (by omega) (by omega)
        unfold ix at this
        rw [Int.toNat_natCast, hk] at this
        simpa using this
      · cases hk
    generalize hk : indexF_m s del = k at *
    have h2 : s.filter (fun x => !del x) = (s.take k.toNat ++ ix s k :: s.drop (k + 1).toNat).filter (fun x => !del x) := by rw [← hs]
    rw [h2, List.filter_append, h1, List.filter_cons_of_neg (by simp [c])]
  · rw [if_pos a]
    symm
    rw [List.filter_eq_self]
    intro x hx
    obtain ⟨k, hk⟩ := List.getElem?_of_mem hx
    have hl : k < s.length := (List.getElem?_eq_some_iff.1 hk).1
    have := b (k : Int) (by omega) (by omega)
    unfold ix at this
    rw [Int.toNat_natCast, hk] at this
    simpa using this
theorem bs_tw {α R : Type} [Inhabited α] (x : List α) (p : α → Bool) (c : α → Int) (hc : ∀ a, c a < 0 ↔ p a = true) (L : Nat → Int → Int → R ⊕ (Int × Int)) (hL : ∀ fuel i j, L (fuel + 1) i j = if i < j then (if c (ix x ((i + j) / 2)) < 0 then L fuel ((i + j) / 2 + 1) j else L fuel i ((i + j) / 2)) else .inr (i, j))
    (mono : x.Pairwise (fun a b => p b = true → p a = true)) : L (((x.length : Int) - (0 : Int)).toNat + 1) 0 x.length = .inr (((x.takeWhile p).length : Int), ((x.takeWhile p).length : Int)) := by
  obtain ⟨q, h, h0, h1, h2, h3⟩ := bs_spec x c L hL (fun a b ha hab hb hcb => by
    rw [hc] at *
    have := List.pairwise_iff_getElem.1 mono a.toNat b.toNat (by omega) (by omega) (by omega)
    rw [← ix_at x (by omega), ← ix_at x (by omega), show ((a.toNat : Nat) : Int) = a by omega, show ((b.toNat : Nat) : Int) = b by omega] at this
    exact this hcb) (((x.length : Int) - (0 : Int)).toNat + 1) 0 x.length (by omega) (by omega) (by omega) (by omega) (fun _ _ _ => by omega) (fun _ _ _ => by omega)
  have := tw_of p x q.toNat (fun k hk hkl => by
    have := (hc _).1 (h2 k (by omega) (by omega)); rw [ix_at x hkl] at this; exact this) (fun k hk hkl => by
    have := h3 k (by omega) (by omega); rw [hc, ix_at x hkl] at this; simpa using this) (by omega)
  rw [h, this]
  congr 1
  have : ((q.toNat : Nat) : Int) = q := by omega
  rw [this]
structure SetOk (s : SetM) : Prop where
  la : s.adds.length ≤ 4096
  lg : s.gone.length ≤ 4096
  ra : Rises (s.adds.map (·.tag))
  rg : Rises s.gone
  dj : ∀ a ∈ s.adds, a.tag ∉ s.gone
theorem setOk_of {s : SetM} (h : ocheck_m s = 0) : SetOk s := by
  unfold ocheck_m at h
  split at h
  · cases h
  rename_i c1
  split at h
  · cases h
  split at h
  · rename_i c3
    split at h
    · cases h
    rename_i c4
    rw [ocheck_c1_iff] at c1
    rw [ocheck_c3_iff] at c4
    have hg : strictF_m s.gone icompareTag_m = true := by
      by_cases q : strictF_m s.gone icompareTag_m = true
      · exact q
      · exact absurd (.inl q) c4
    have rg := (strictTag_iff s.gone).1 hg
    refine ⟨by omega, by omega, (strictAdd_iff s.adds).1 c3, rg, fun a ha hm => ?_⟩
    refine absurd (.inr ?_) c4
    rw [containsF_eq, List.any_eq_true]
    refine ⟨a, ha, ?_⟩
    unfold ocheck3_m ogone_m
    rw [bs_mem rg]
    split
    · simpa using hm
    · rfl
  · cases h
theorem rises_mono {α : Type} (f : α → TagM) {l : List α} (h : Rises (l.map f)) (t : TagM) : l.Pairwise (fun a b => tagLt (f b) t = true → tagLt (f a) t = true) := by
  unfold Rises at h
  rw [List.pairwise_map] at h
  exact h.imp fun {a b} hab hb => tagLt_trans _ _ _ hab hb
theorem bsearchAdd_tw {l : List AddM} (h : Rises (l.map (·.tag))) (t : TagM) : bsearchAdd_m l t obyTag_m = (((l.takeWhile (fun a => tagLt a.tag t)).length : Int), decide (t ∈ l.map (·.tag))) := by
  unfold bsearchAdd_m
  rw [bs_tw l (fun a => tagLt a.tag t) (fun a => obyTag_m a t) (fun a => by unfold obyTag_m; rw [icompareTag_eq]; exact tagCmp_neg _ _) (bsearchAdd_L1 l t obyTag_m) (fun _ _ _ => rfl) (rises_mono (fun a : AddM => a.tag) h t)]
  simp only
  have e := List.takeWhile_append_dropWhile (p := fun a : AddM => tagLt a.tag t) (l := l)
  have hd := drop_tw (fun a : AddM => tagLt a.tag t) l
  split
  · rename_i hlt
    have hlt' : (l.takeWhile (fun a => tagLt a.tag t)).length < l.length := by omega
    congr 1
    rw [ix_at l hlt', Bool.eq_iff_iff, beq_iff_eq, decide_eq_true_eq]
    unfold obyTag_m
    rw [icompareTag_eq, tagCmp_zero]
    have hdc := List.drop_eq_getElem_cons hlt'
    rw [hd] at hdc
    constructor
    · intro he; rw [← he]; exact List.mem_map_of_mem (List.getElem_mem _)
    · intro hm
      obtain ⟨a, ha, rfl⟩ := List.mem_map.1 hm
      rw [← e] at ha
      rcases List.mem_append.1 ha with h1 | h1
      · have := List.all_eq_true.1 (List.all_takeWhile (p := fun x : AddM => tagLt x.tag a.tag) (l := l)) a h1
        rw [tagLt_irrefl] at this; cases this
      · rw [hdc] at h1
        rcases List.mem_cons.1 h1 with h2 | h2
        · rw [← h2]
        · exfalso
          have hr : Rises ((l.dropWhile (fun x => tagLt x.tag a.tag)).map (·.tag)) := by
            unfold Rises at h ⊢
            exact h.sublist ((List.dropWhile_sublist _).map _)
          rw [hdc] at hr
          unfold Rises at hr
          rw [List.map_cons, List.pairwise_cons] at hr
          have h3 := hr.1 a.tag (List.mem_map_of_mem h2)
          have h4 : tagLt (l[(l.takeWhile (fun x => tagLt x.tag a.tag)).length]).tag a.tag = false := by
            have := List.head?_dropWhile_not (fun x : AddM => tagLt x.tag a.tag) l
            rw [hdc, List.head?_cons] at this
            exact this
          rw [h3] at h4; cases h4
  · rename_i hge
    congr 1
    symm; rw [decide_eq_false_iff_not]
    intro hm
    obtain ⟨a, ha, rfl⟩ := List.mem_map.1 hm
    have hlen := congrArg List.length e
    rw [List.length_append] at hlen
    have : l.dropWhile (fun x => tagLt x.tag a.tag) = [] := List.eq_nil_of_length_eq_zero (by omega)
    rw [this, List.append_nil] at e
    rw [← e] at ha
    have := List.all_eq_true.1 (List.all_takeWhile (p := fun x : AddM => tagLt x.tag a.tag) (l := l)) a ha
    rw [tagLt_irrefl] at this; cases this
theorem notTag_iff {t : TagM} (h : tagOk t) : (icheckTag_m t != 0) = true ↔ ¬ r5checkTag_m t = 0 := by rw [checkTag_eq h]; simp
theorem oput_eq {s : SetM} (hs : SetWf s) {a : AddM} (ha : tagOk a.tag) : oput_m s a = r12put_m s a := by
  unfold oput_m r12put_m
  rw [ocheck_eq hs, r12elem_eq]
  by_cases c1 : r12check_m s = 0
  · rw [if_pos c1, if_pos c1]
    have ok := setOk_of (s := s) (by rw [ocheck_eq hs]; exact c1)
    by_cases c2 : r5checkTag_m a.tag = 0
    · rw [if_pos c2, if_neg (by unfold onotTag_m; rw [notTag_iff ha]; simp [c2])]
      by_cases c3 : r12elem_m a.elem = true
      · rw [if_pos c3, if_pos c3, bsearchAdd_tw ok.ra]
        simp only [decide_eq_true_eq]
        have hg : (ogone_m s a.tag = true) ↔ a.tag ∈ s.gone := by unfold ogone_m; rw [bs_mem ok.rg, decide_eq_true_eq]
        have hc : (r12put_c1 s a = true) ↔ (a.tag ∈ s.gone ∨ a.tag ∈ s.adds.map (·.tag)) := by
          unfold r12put_c1; rw [hasTag_eq, hasTag_eq, r12tags_eq]
          by_cases q : a.tag ∈ s.gone <;> simp [q]
        simp only [hg, hc]
        by_cases c4 : a.tag ∈ s.adds.map (·.tag)
        · rw [if_pos c4, if_pos (.inr c4)]; rfl
        · by_cases c5 : a.tag ∈ s.gone
          · rw [if_neg c4, if_pos c5, if_pos (.inl c5)]; rfl
          · rw [if_neg c4, if_neg c5, if_neg (show ¬ (a.tag ∈ s.gone ∨ a.tag ∈ s.adds.map (·.tag)) from fun h => h.elim c5 c4)]
            split
            · rfl
            · have hl := loop_while0 s.adds (fun x => tagLt x.tag a.tag) (r12put_L1 s a) (fun fuel i h0 => by
                rw [r12put_L1]
                have : (r12put_c2 s a i = true) ↔ (i < (s.adds.length : Int) ∧ tagLt (ix s.adds i).tag a.tag = true) := by
                  unfold r12put_c2
                  by_cases hi : i < (s.adds.length : Int)
                  · rw [if_pos hi, r5compareTag_eq (hs.adds _ (ix_memI _ h0 hi)).seq ha.seq, decide_eq_true_eq, tagCmp_neg]; simp [hi]
                  · simp [hi]
                simp only [this])
              rw [hl]
              simp only [Int.toNat_natCast, List.nil_append]
              unfold insertAdd_m cloneAdd_m cloneTag_m
              simp only [Int.toNat_natCast]
      · rw [if_neg c3, if_neg c3]
    · rw [if_neg c2, if_pos (by unfold onotTag_m; rw [notTag_iff ha]; exact c2)]
  · rw [if_neg c1, if_neg c1]
theorem r12gone_eq {l : List TagM} (hl : ∀ x ∈ l, seqOk x) {t : TagM} (ht : seqOk t) : r12gone_m l t = if t ∈ l then l else insL tagLt l t := by
  unfold r12gone_m
  rw [hasTag_eq]
  simp only [decide_eq_true_eq]
  split
  · rfl
  · have h := loop_while0 l (fun x => tagLt x t) (r12gone_L1 l t) (fun fuel i h0 => by
      rw [r12gone_L1]
      have : (r12gone_c1 l t i = true) ↔ (i < (l.length : Int) ∧ tagLt (ix l i) t = true) := by
        unfold r12gone_c1
        by_cases hi : i < (l.length : Int)
        · rw [if_pos hi, r5compareTag_eq (hl _ (ix_memI _ h0 hi)) ht, decide_eq_true_eq, tagCmp_neg]; simp [hi]
        · simp [hi]
      simp only [this])
    rw [h]
    simp only [Int.toNat_natCast, List.nil_append, take_tw, drop_tw]
    rfl
theorem tagTot (a b : TagM) (h1 : tagLt a b = false) (h2 : tagLt b a = false) : a = b := by
  rcases tagLt_tri a b with h | h | h
  · rw [h] at h1; cases h1
  · exact h
  · rw [h] at h2; cases h2
theorem goneFold : ∀ (l g : List TagM), (∀ x ∈ l, seqOk x) → (∀ x ∈ g, seqOk x) → Rises g → Rises (l.foldl r12gone_m g) ∧ (∀ x, x ∈ l.foldl r12gone_m g ↔ x ∈ g ∨ x ∈ l)
  | [], g, _, _, hr => ⟨hr, fun x => by simp⟩
  | t :: l, g, hl, hg, hr => by
    have ht : seqOk t := hl t (by simp)
    have e := r12gone_eq hg ht
    have hm : ∀ x, x ∈ r12gone_m g t ↔ x = t ∨ x ∈ g := fun x => by
      rw [e]; split
      · rename_i h; constructor
        · exact .inr
        · rintro (rfl | h2)
          · exact h
          · exact h2
      · exact insL_mem tagLt g t x
    have hr2 : Rises (r12gone_m g t) := by
      rw [e]; split
      · exact hr
      · rename_i h
        exact insL_strict tagLt tagTot tagLt_trans hr (fun x hx q => h (q ▸ hx))
    have ih := goneFold l (r12gone_m g t) (fun x hx => hl x (by simp [hx])) (fun x hx => by
      rcases (hm x).1 hx with rfl | h
      · exact ht
      · exact hg x h) hr2
    rw [List.foldl_cons]
    refine ⟨ih.1, fun x => ?_⟩
    rw [ih.2 x, hm x, List.mem_cons]
    constructor
    · rintro ((h | h) | h)
      · exact .inr (.inl h)
      · exact .inl h
      · exact .inr (.inr h)
    · rintro (h | h | h)
      · exact .inl (.inr h)
      · exact .inl (.inl h)
      · exact .inr h
open Go.Shelf Go.Lib Go.Sort in
theorem sortTag_facts (l : List TagM) : Rises (compactTag_m (sortF icompareTag_m l)) ∧ (∀ x, x ∈ compactTag_m (sortF icompareTag_m l) ↔ x ∈ l) := by
  rw [compactTag_eq]
  have e : ∀ a b, ltOf icompareTag_m a b = tagLt a b := fun a b => by
    unfold ltOf; rw [icompareTag_eq, Bool.eq_iff_iff, decide_eq_true_iff]; exact tagCmp_neg a b
  have hp : (sortF icompareTag_m l).Perm l := List.mergeSort_perm _ _
  have hs : (sortF icompareTag_m l).Pairwise (fun a b => tagLt b a = false) := by
    have := List.pairwise_mergeSort (le := fun x y => !(ltOf icompareTag_m) y x) (fun a b c h1 h2 => by
      simp only [e, Bool.not_eq_true'] at *
      rcases tagLt_tri c a with h | h | h
      · rcases tagLt_tri b a with g | g | g
        · rw [g] at h1; cases h1
        · subst g; rw [h] at h2; cases h2
        · have := tagLt_trans c a b h g; rw [this] at h2; cases h2
      · subst h; exact tagLt_irrefl c
      · exact tagLt_asymm h) (fun a b => by
      simp only [e, Bool.or_eq_true, Bool.not_eq_true']
      rcases tagLt_tri a b with h | h | h
      · exact .inl (tagLt_asymm h)
      · subst h; exact .inl (tagLt_irrefl a)
      · exact .inr (tagLt_asymm h)) l
    exact this.imp fun {a b} h => by simpa only [e, Bool.not_eq_true'] using h
  refine ⟨dd_strict tagLt tagTot tagLt_trans _ hs, fun x => by rw [dd_mem]; exact hp.mem_iff⟩
theorem drop_gone {g l : List TagM} (hg : ∀ x ∈ g, seqOk x) (hl : ∀ x ∈ l, seqOk x) (hr : Rises g) : compactTag_m (sortF icompareTag_m (concatTag_m g l)) = l.foldl r12gone_m g := by
  have h1 := sortTag_facts (concatTag_m g l)
  have h2 := goneFold l g hl hg hr
  refine strict_ext tagLt (fun a b h => tagLt_asymm h) h1.1 h2.1 fun x => ?_
  rw [h1.2 x, h2.2 x]
  unfold concatTag_m
  rw [List.mem_append]
theorem odrop_eq {s : SetM} (hs : SetWf s) {l : List TagM} (hl : ∀ t ∈ l, tagOk t) : odrop_m s l = r12drop_m s l := by
  unfold odrop_m r12drop_m
  rw [ocheck_eq hs, containsF_eq, any_notTag hl onotTag_m (fun _ => rfl)]
  by_cases c1 : r12check_m s = 0
  · rw [if_pos c1, if_pos c1]
    have ok := setOk_of (s := s) (by rw [ocheck_eq hs]; exact c1)
    split
    · rfl
    · by_cases c2 : r12right_m l = true
      · rw [if_neg (by simp [c2]), if_pos c2]
        rw [loop_fold0' l (fun acc x => r12gone_m acc x) (r12drop_L1 s l) (fun _ _ _ _ => rfl)]
        have hd := drop_gone (fun x hx => (hs.gone x hx).seq) (fun x hx => (hl x hx).seq) ok.rg
        have hgf := goneFold l s.gone (fun x hx => (hl x hx).seq) (fun x hx => (hs.gone x hx).seq) ok.rg
        simp only [hd]
        split
        · rfl
        · rw [loop_fold0' s.adds (fun acc x => if (!r12hasTag_m l x.tag) = true then acc ++ [x] else acc) (r12drop_L2 s l (l.length : Int) (l.foldl r12gone_m s.gone)) (fun fuel b i _ => by
            rw [r12drop_L2]; by_cases h : r12hasTag_m l (ix s.adds i).tag = true <;> simp [h])]
          simp only [foldl_filter_app (fun x : AddM => !r12hasTag_m l x.tag) (fun x : AddM => x), List.nil_append, List.map_id', deleteF_eq]
          congr 2
          unfold cloneAdd_m
          apply List.filter_congr
          intro a ha
          congr 1
          unfold odrop1_m ogone_m
          rw [bs_mem hgf.1, hasTag_eq]
          apply decide_eq_decide.2
          rw [hgf.2]
          constructor
          · rintro (h | h)
            · exact absurd h (ok.dj a ha)
            · exact h
          · exact .inr
      · rw [if_pos (by simp [c2]), if_neg c2]
  · rw [if_neg c1, if_neg c1]
end Go.Proofs.YtmenpoicgoijcaaGreat

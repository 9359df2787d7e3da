/- Walks printed by gen2.py out of our own specifications: what the functions named below do. -/
import Derived.Test.YtngofknckkiboaaGreatDoorSc
import Derived.Test.YtngofknckkiboaaGreatDoorHB
set_option linter.unusedSimpArgs false
set_option linter.unusedVariables false
namespace Go.Proofs.YtngofknckkiboaaGreatDoor
open Go.RowKit


theorem cmpL_z (x y : Int) : cmpL_m x y = if x < y then -1 else if y < x then 1 else 0 := by unfold cmpL_m nanL_m; simp
theorem cmpOrE_z (a b : Int) : cmpOrE_m [a, b] = if a = 0 then b else a := by
  unfold cmpOrE_m
  rw [show (((([a, b] : List Int).length : Int) - (0 : Int)).toNat + 1) = 3 from rfl]
  simp only [cmpOrE_L1, ix, List.length_cons, List.length_nil]
  by_cases ha : a = 0 <;> by_cases hb : b = 0 <;> simp [ha, hb]
theorem wmerge_z (a b : RegM) : (rLt a b → wmerge_m a b = b) ∧ (¬ rLt a b → wmerge_m a b = a) := by
  have : (cmpOr_m [lcompare_m a.atF b.atF, cmpL_m a.val b.val] < 0) ↔ rLt a b := by
    rw [cmpOr2, cmpL_z]
    unfold lcompare_m
    rw [cmpOr2, cmpU_eq, cmpI_eq]
    unfold rLt
    by_cases h1 : a.atF.time < b.atF.time
    · simp [h1]
    · by_cases h2 : b.atF.time < a.atF.time
      · simp [h1, h2]; omega
      · by_cases h3 : a.atF.origin < b.atF.origin
        · have e : a.atF.time = b.atF.time := by omega
          simp [h3, e]
        · by_cases h4 : b.atF.origin < a.atF.origin
          · have e : a.atF.time = b.atF.time := by omega
            simp [h3, h4, e]; omega
          · have e : a.atF.time = b.atF.time := by omega
            have e2 : a.atF.origin = b.atF.origin := by omega
            by_cases h5 : a.val < b.val
            · simp [e, e2, h5]
            · by_cases h6 : b.val < a.val
              · simp [e, e2, h5, h6]
              · simp [e, e2, h5, h6]
  unfold wmerge_m
  exact ⟨fun h => if_pos (this.2 h), fun h => if_neg (fun q => h (this.1 q))⟩
theorem wapply_fine {r : RegM} {L : List EffectM} {e : EffectM} (h : RInv r L) (h0 : lcheck_m r.atF = 0) (h1 : lcheck_m e.atF = 0) (h2 : 0 < e.atF.time) (ha : e.act = 1) : ∃ r', wapply_m r e.val e.atF = (r', 0) ∧ RInv r' (L ++ [e]) ∧ lcheck_m r'.atF = 0 := by
  refine ⟨wmerge_m r (rOf e), ?_, ?_⟩
  · unfold wapply_m
    rw [if_pos (by rw [cmpOrE_z, if_pos h0]; exact h1), if_neg (by omega)]; rfl
  · by_cases q : rLt r (rOf e)
    · rw [(wmerge_z r (rOf e)).1 q]
      refine ⟨⟨.inr ⟨e, by simp, ha, rfl⟩, ?_, fun x hx hx1 => ?_⟩, h1⟩
      · have := h.z; unfold rLt at *; omega
      · rcases List.mem_append.1 hx with hx | hx
        · have := h.m x hx hx1; unfold rLt at *; omega
        · rw [List.mem_singleton] at hx; subst hx; exact rLt_irr _
    · rw [(wmerge_z r (rOf e)).2 q]
      refine ⟨⟨?_, h.z, fun x hx hx1 => ?_⟩, h0⟩
      · rcases h.i with g | ⟨x, hx, g⟩
        · exact .inl g
        · exact .inr ⟨x, by simp [hx], g⟩
      · rcases List.mem_append.1 hx with hx | hx
        · exact h.m x hx hx1
        · rw [List.mem_singleton] at hx; subst hx; exact q
theorem tplus_fine {a b : Int} (h1 : 0 ≤ a) (h2 : 0 ≤ b) (h3 : a + b ≤ 1125899906842624) : tplus_m a b = (a + b, 0) := by
  unfold tplus_m
  rw [within2, within1, if_pos (decide_eq_true (by omega)), if_pos (decide_eq_true (by omega))]
theorem napply_fine {n : NumM} {d : Int} (h : ncheck_m n = 0) (h1 : -1073741824 ≤ d ∧ d ≤ 1073741824) (h2 : n.plus ≤ 100000000000 ∧ n.minus ≤ 100000000000) : napply_m n d = (⟨n.plus + (if 0 ≤ d then d else 0), n.minus + (if d < 0 then 0 - d else 0)⟩, 0) := by
  have hc := ncheck_in h
  unfold napply_m
  rw [if_pos h, if_neg (by rw [napply_c1_iff]; omega)]
  by_cases hd : d < 0
  · rw [if_pos hd, tplus_fine (by omega) (by omega) (by omega), if_pos rfl, if_pos hd, if_neg (show ¬ 0 ≤ d by omega), Int.add_zero]
  · rw [if_neg hd, tplus_fine (by omega) (by omega) (by omega), if_pos rfl, if_neg hd, if_pos (show 0 ≤ d by omega), Int.add_zero]
/-- An effect that may be, of an object of a kind. -/
structure Good (k : Int) (e : EffectM) : Prop where
  c : ocheckE_m e = 0
  k : okind_m e.act = k
  t : e.tags.length ≤ 100
structure Facts (e : EffectM) : Prop where
  tag : icheckTag_m e.tag = 0
  tags : ∀ t ∈ e.tags, icheckTag_m t = 0
  at_ : e.act = 1 ∨ e.act = 5 → lcheck_m e.atF = 0 ∧ 0 < e.atF.time
  name : e.act = 3 ∨ e.act = 5 → oelem_m e.name = true
  val : e.act = 2 → -1073741824 ≤ e.val ∧ e.val ≤ 1073741824
theorem form_1 {a : Int} (h : a = 1 ∨ a = 5) : (oform_m a).atF = true := by rcases h with rfl | rfl <;> rfl
theorem form_n {a : Int} (h : a = 3 ∨ a = 5) : (oform_m a).name = true := by rcases h with rfl | rfl <;> rfl
theorem facts_of {e : EffectM} (h : ocheckE_m e = 0) : Facts e := by
  unfold ocheckE_m at h
  split at h
  · rename_i h0
    split at h
    · cases h
    rename_i h1
    split at h
    · cases h
    split at h
    · cases h
    rename_i h2
    rw [ocheckE_c1_iff] at h1
    have t1 : ¬ bnotTag_m e.tag = true := fun q => h1 (.inl q)
    have t2 : ¬ containsF_m e.tags bnotTag_m = true := fun q => h1 (.inr q)
    unfold ocheckOp_m at h0
    split at h0
    · cases h0
    split at h0
    · cases h0
    rename_i o1
    split at h0
    · cases h0
    split at h0
    · cases h0
    split at h0
    · cases h0
    rename_i o4
    refine ⟨by unfold bnotTag_m at t1; simpa using t1, fun t ht => ?_, fun ha => ?_, fun ha => ?_, fun ha => ?_⟩
    · rw [containsF_eq] at t2
      have := t2
      simp only [Bool.not_eq_true, List.any_eq_false] at this
      have := this t ht
      unfold bnotTag_m at this; simpa using this
    · have hq := form_1 ha
      unfold ocheckE_c2 at h2
      rw [if_pos hq] at h2
      by_cases q : otimed_m e.atF = true
      · unfold otimed_m at q
        split at q
        · rename_i q1; exact ⟨q1, of_decide_eq_true q⟩
        · cases q
      · rw [if_neg q] at h2; exact absurd rfl h2
    · have hq := form_n ha
      unfold ocheckOp_c1 at o1
      rw [if_pos hq] at o1
      simpa using o1
    · unfold ocheckOp_c4 at o4
      rw [if_pos ha] at o4
      by_cases q : e.val < -1073741824
      · rw [if_pos q] at o4; exact absurd rfl o4
      · rw [if_neg q] at o4
        have : ¬ 1073741824 < e.val := fun z => o4 (decide_eq_true z)
        omega
  · rename_i h0; exact absurd h h0
def mkA (e : EffectM) : AddM := ⟨e.tag, e.name⟩
def mkP (e : EffectM) : PutM := ⟨e.tag, e.name, e.val, e.atF⟩
structure OInv (k : Int) (s : ObjM) (L : List EffectM) : Prop where
  kd : s.kind = k
  r : RInv s.reg L
  p : s.num.plus = sP L
  m : s.num.minus = sM L
  st : GInv (·.tag) mkA 3 4 s.setF.adds s.setF.gone L
  mp : GInv (·.tag) mkP 5 6 s.map.puts s.map.gone L
theorem lcheck_zero : lcheck_m (⟨0, 0⟩ : StampM) = 0 := by decide
section
variable {k : Int} {s s' : ObjM} {L L' : List EffectM} {e : EffectM}
theorem OInv.reg0 (h : OInv k s L) (hg : ∀ x ∈ L, Good k x) : lcheck_m s.reg.atF = 0 := by
  rcases h.r.i with q | ⟨x, hx, ha, q⟩
  · rw [q]; exact lcheck_zero
  · rw [q]; exact ((facts_of (hg x hx).c).at_ (.inl ha)).1
theorem OInv.set0 (h : OInv k s L) (hg : ∀ x ∈ L, Good k x) (hl : L.length ≤ 40) : SetFine s.setF := by
  have hn := h.st.n; have hgo := h.st.g
  refine ⟨by omega, by omega, fun a ha => ?_, fun t ht => ?_, h.st.ra, h.st.rg, fun a ha => ?_, h.st.dj⟩
  · obtain ⟨⟨x, hx, _, rfl⟩, _⟩ := (h.st.ma a).1 ha; exact (facts_of (hg x hx).c).tag
  · obtain ⟨x, hx, _, h2⟩ := (h.st.mg t).1 ht; exact (facts_of (hg x hx).c).tags t h2
  · obtain ⟨⟨x, hx, ha3, rfl⟩, _⟩ := (h.st.ma a).1 ha; exact (facts_of (hg x hx).c).name (.inl ha3)
theorem mright_of {e : EffectM} (h : Facts e) (ha : e.act = 5) : mright_m (mkP e) = true := by
  have h1 := h.name (.inr ha); have h2 := h.at_ (.inr ha)
  unfold oelem_m at h1
  split at h1
  · cases h1
  · rename_i q
    unfold mright_m mkP
    simp only
    rw [if_neg q, if_pos (of_decide_eq_true h1), if_pos h2.1]; exact decide_eq_true h2.2
theorem OInv.map0 (h : OInv k s L) (hg : ∀ x ∈ L, Good k x) (hl : L.length ≤ 40) : MapFine s.map := by
  have hn := h.mp.n; have hgo := h.mp.g
  refine ⟨by omega, by omega, fun a ha => ?_, fun t ht => ?_, h.mp.ra, h.mp.rg, fun a ha => ?_, h.mp.dj⟩
  · obtain ⟨⟨x, hx, _, rfl⟩, _⟩ := (h.mp.ma a).1 ha; exact (facts_of (hg x hx).c).tag
  · obtain ⟨x, hx, _, h2⟩ := (h.mp.mg t).1 ht; exact (facts_of (hg x hx).c).tags t h2
  · obtain ⟨⟨x, hx, ha3, rfl⟩, _⟩ := (h.mp.ma a).1 ha; exact mright_of (facts_of (hg x hx).c) ha3
theorem OInv.num0 (h : OInv k s L) (hg : ∀ x ∈ L, Good k x) (hl : L.length ≤ 40) : ncheck_m s.num = 0 ∧ s.num.plus ≤ 100000000000 ∧ s.num.minus ≤ 100000000000 := by
  have hb := s_bnd (l := L) (fun x hx ha => (facts_of (hg x hx).c).val ha)
  have h1 := h.p; have h2 := h.m
  refine ⟨?_, by omega, by omega⟩
  rw [ncheck_eq, if_pos (by omega)]
theorem OInv.ext (h : OInv k s L) (h' : OInv k s' L') (hp : L.Perm L') : s = s' := by
  have hm : ∀ x, x ∈ L ↔ x ∈ L' := fun x => hp.mem_iff
  have e1 := h.st.ext h'.st hm; have e2 := h.mp.ext h'.mp hm; have e3 := h.r.ext h'.r hm
  have e4 := h.p.trans ((sP_perm hp).trans h'.p.symm); have e5 := h.m.trans ((sM_perm hp).trans h'.m.symm); have e6 := h.kd.trans h'.kd.symm
  obtain ⟨a1, a2, ⟨a3, a4⟩, ⟨a5, a6⟩, ⟨a7, a8⟩⟩ := s
  obtain ⟨b1, b2, ⟨b3, b4⟩, ⟨b5, b6⟩, ⟨b7, b8⟩⟩ := s'
  simp only at e1 e2 e3 e4 e5 e6
  obtain ⟨rfl, rfl⟩ := e1; obtain ⟨rfl, rfl⟩ := e2
  subst e3; subst e4; subst e5; subst e6; rfl
theorem kinds {a k : Int} (h : okind_m a = k) (h1 : 1 ≤ k) : a = 1 ∨ a = 2 ∨ a = 3 ∨ a = 4 ∨ a = 5 ∨ a = 6 := by
  unfold okind_m at h
  repeat' split at h
  all_goals omega
theorem sP_one {l : List EffectM} {e : EffectM} (h : ¬ e.act = 2) : sP (l ++ [e]) = sP l ∧ sM (l ++ [e]) = sM l := by
  rw [sP_app, sM_app]; simp [sP, sM, h]
theorem oapply_step (hk : 1 ≤ k) (h : OInv k s L) (hg : ∀ x ∈ L, Good k x) (he : Good k e) (hf : e.tag ∉ L.map (·.tag)) (hl : L.length < 40) : ∃ s', oapply_m s e = (s', 0) ∧ OInv k s' (L ++ [e]) := by
  have fe := facts_of he.c
  have hkk : okind_m e.act = s.kind := he.k.trans h.kd.symm
  rcases kinds he.k hk with ha | ha | ha | ha | ha | ha
  · obtain ⟨r', e1, h1, _⟩ := wapply_fine h.r (h.reg0 hg) (fe.at_ (.inl ha)).1 (fe.at_ (.inl ha)).2 ha
    refine ⟨⟨s.kind, r', s.num, s.setF, s.map⟩, ?_, h.kd, h1, ?_, ?_, h.st.other (by omega) (by omega), h.mp.other (by omega) (by omega)⟩
    · have := (if_pos he.c).trans ((if_pos hkk).trans ((if_pos ha).trans (if_pos (show (wapply_m s.reg e.val e.atF).2 = 0 by rw [e1])))) |> (show oapply_m s e = (⟨s.kind, (wapply_m s.reg e.val e.atF).1, s.num, s.setF, s.map⟩, 0) from ·)
      rw [this, e1]
    · rw [(sP_one (by omega)).1]; exact h.p
    · rw [(sP_one (by omega)).2]; exact h.m
  · have hn := h.num0 hg (by omega)
    have e1 := napply_fine hn.1 (fe.val ha) hn.2
    refine ⟨⟨s.kind, s.reg, (napply_m s.num e.val).1, s.setF, s.map⟩, ?_, h.kd, h.r.other (by omega), ?_, ?_, h.st.other (by omega) (by omega), h.mp.other (by omega) (by omega)⟩
    · exact (if_pos he.c).trans ((if_pos hkk).trans ((if_neg (show ¬ e.act = 1 by omega)).trans ((if_pos ha).trans (if_pos (show (napply_m s.num e.val).2 = 0 by rw [e1])))))
    · simp only [e1]; rw [sP_app, h.p]; simp [sP, ha]
    · simp only [e1]; rw [sM_app, h.m]; simp [sM, ha]
  · have hs := h.set0 hg (by omega)
    have hn := h.st.n
    have hfr := h.st.fresh (e := e) (fun _ => rfl) hf
    have e1 := oput_fine hs (a := mkA e) fe.tag (fe.name (.inl ha)) (by omega) hfr
    refine ⟨⟨s.kind, s.reg, s.num, (oput_m s.setF (mkA e)).1, s.map⟩, ?_, h.kd, h.r.other (by omega), ?_, ?_, ?_, h.mp.other (by omega) (by omega)⟩
    · exact (if_pos he.c).trans ((if_pos hkk).trans ((if_neg (show ¬ e.act = 1 by omega)).trans ((if_neg (show ¬ e.act = 2 by omega)).trans ((if_pos ha).trans (if_pos (show (oput_m s.setF (mkA e)).2 = 0 by rw [e1]))))))
    · rw [(sP_one (by omega)).1]; exact h.p
    · rw [(sP_one (by omega)).2]; exact h.m
    · simp only [e1]; exact h.st.put (fun _ => rfl) ha (by omega) hf
  · have hs := h.set0 hg (by omega)
    have hgo := h.st.g
    have ht := he.t
    have e1 := odrop_fine hs fe.tags (by omega) (by omega)
    have hd := dropG_facts s.setF.gone e.tags
    refine ⟨⟨s.kind, s.reg, s.num, (odrop_m s.setF e.tags).1, s.map⟩, ?_, h.kd, h.r.other (by omega), ?_, ?_, ?_, h.mp.other (by omega) (by omega)⟩
    · exact (if_pos he.c).trans ((if_pos hkk).trans ((if_neg (show ¬ e.act = 1 by omega)).trans ((if_neg (show ¬ e.act = 2 by omega)).trans ((if_neg (show ¬ e.act = 3 by omega)).trans ((if_pos ha).trans (if_pos (show (odrop_m s.setF e.tags).2 = 0 by rw [e1])))))))
    · rw [(sP_one (by omega)).1]; exact h.p
    · rw [(sP_one (by omega)).2]; exact h.m
    · simp only [e1]; exact h.st.drop ha (by omega) hd.1 hd.2.1 hd.2.2 ht
  · have hs := h.map0 hg (by omega)
    have hn := h.mp.n
    have hfr := h.mp.fresh (e := e) (fun _ => rfl) hf
    have e1 := mapply_fine hs (a := mkP e) fe.tag (mright_of fe ha) (by omega) hfr
    refine ⟨⟨s.kind, s.reg, s.num, s.setF, (mapply_m s.map (mkP e)).1⟩, ?_, h.kd, h.r.other (by omega), ?_, ?_, h.st.other (by omega) (by omega), ?_⟩
    · exact (if_pos he.c).trans ((if_pos hkk).trans ((if_neg (show ¬ e.act = 1 by omega)).trans ((if_neg (show ¬ e.act = 2 by omega)).trans ((if_neg (show ¬ e.act = 3 by omega)).trans ((if_neg (show ¬ e.act = 4 by omega)).trans ((if_pos ha).trans (if_pos (show (mapply_m s.map (mkP e)).2 = 0 by rw [e1]))))))))
    · rw [(sP_one (by omega)).1]; exact h.p
    · rw [(sP_one (by omega)).2]; exact h.m
    · simp only [e1]; exact h.mp.put (fun _ => rfl) ha (by omega) hf
  · have hs := h.map0 hg (by omega)
    have hgo := h.mp.g
    have ht := he.t
    have e1 := mdrop_fine hs fe.tags (by omega) (by omega)
    have hd := dropG_facts s.map.gone e.tags
    refine ⟨⟨s.kind, s.reg, s.num, s.setF, (mdrop_m s.map e.tags).1⟩, ?_, h.kd, h.r.other (by omega), ?_, ?_, h.st.other (by omega) (by omega), ?_⟩
    · exact (if_pos he.c).trans ((if_pos hkk).trans ((if_neg (show ¬ e.act = 1 by omega)).trans ((if_neg (show ¬ e.act = 2 by omega)).trans ((if_neg (show ¬ e.act = 3 by omega)).trans ((if_neg (show ¬ e.act = 4 by omega)).trans ((if_neg (show ¬ e.act = 5 by omega)).trans ((if_pos ha).trans (if_pos (show (mdrop_m s.map e.tags).2 = 0 by rw [e1])))))))))
    · rw [(sP_one (by omega)).1]; exact h.p
    · rw [(sP_one (by omega)).2]; exact h.m
    · simp only [e1]; exact h.mp.drop ha (by omega) hd.1 hd.2.1 hd.2.2 ht
end
theorem oapply_bad {k : Int} {s : ObjM} {e : EffectM} (hs : s.kind = k) (h : (oapply_m s e).2 = 0) : ocheckE_m e = 0 ∧ okind_m e.act = k := by
  by_cases h1 : ocheckE_m e = 0
  · by_cases h2 : okind_m e.act = s.kind
    · exact ⟨h1, h2.trans hs⟩
    · have : oapply_m s e = (⟨0, ⟨0, ⟨0, 0⟩⟩, ⟨0, 0⟩, ⟨[], []⟩, ⟨[], []⟩⟩, 5) := (if_pos h1).trans (if_neg h2)
      rw [this] at h; cases h
  · have : oapply_m s e = (⟨0, ⟨0, ⟨0, 0⟩⟩, ⟨0, 0⟩, ⟨[], []⟩, ⟨[], []⟩⟩, ocheckE_m e) := if_neg h1
    rw [this] at h; exact absurd h h1
def zO (k : Int) : ObjM := ⟨k, ⟨0, ⟨0, 0⟩⟩, ⟨0, 0⟩, ⟨[], []⟩, ⟨[], []⟩⟩
theorem onew_z {k : Int} (h1 : 1 ≤ k) (h2 : k ≤ 4) : onew_m k = (zO k, 0) := by
  unfold onew_m; rw [if_neg (by rw [onew_c1_iff]; omega)]; rfl
theorem oinv_z (k : Int) : OInv k (zO k) [] := ⟨rfl, RInv.nil, rfl, rfl, GInv.nil, GInv.nil⟩
theorem OInv.small {k : Int} {s : ObjM} {L : List EffectM} (h : OInv k s L) (hl : L.length ≤ 40) : s.setF.adds.length ≤ 1000000 ∧ s.setF.gone.length ≤ 1000000 ∧ s.map.puts.length ≤ 1000000 ∧ s.map.gone.length ≤ 1000000 := by
  have := h.st.n; have := h.st.g; have := h.mp.n; have := h.mp.g; omega

end Go.Proofs.YtngofknckkiboaaGreatDoor

/- Rows that are enlarged: cap, append of zeros, copies between own rows, slices.overlaps. -/
import Derived.Test.YtdckemiebnfjcaaGreatDoorSc
import Derived.Test.YtdckemiebnfjcaaGreatDoorPl
import Derived.Lib.AppendZerosOnto
import Derived.Lib.Overlaps
section
set_option linter.unusedSimpArgs false
set_option linter.unusedVariables false
namespace Go.Proofs.YtdckemiebnfjcaaGreatDoor
open Go.RowKit
def tagLt (a b : TagM) : Bool := decide (a.id.origin < b.id.origin ∨ (a.id.origin = b.id.origin ∧ (a.id.seq < b.id.seq ∨ (a.id.seq = b.id.seq ∧ a.n < b.n))))
theorem tagLt_trans (a b c : TagM) (h1 : tagLt a b = true) (h2 : tagLt b c = true) : tagLt a c = true := by
  simp only [tagLt, decide_eq_true_eq] at *
  omega
theorem tagLt_irrefl (a : TagM) : tagLt a a = false := by simp [tagLt]
theorem tagLt_asymm {a b : TagM} (h1 : tagLt a b = true) : tagLt b a = false := by
  simp only [tagLt, decide_eq_true_eq, decide_eq_false_iff_not] at *
  omega
theorem tag_ext {a b : TagM} (h1 : a.id.origin = b.id.origin) (h2 : a.id.seq = b.id.seq) (h3 : a.n = b.n) : a = b := by
  obtain ⟨⟨a1, a2⟩, a3⟩ := a
  obtain ⟨⟨b1, b2⟩, b3⟩ := b
  simp only at h1 h2 h3
  subst h1; subst h2; subst h3; rfl
theorem tagLt_tri (a b : TagM) : tagLt a b = true ∨ a = b ∨ tagLt b a = true := by
  by_cases h : tagLt a b = true
  · exact .inl h
  · by_cases h2 : tagLt b a = true
    · exact .inr (.inr h2)
    · refine .inr (.inl (tag_ext ?_ ?_ ?_)) <;> simp only [tagLt, decide_eq_true_eq] at * <;> omega
def tagCmp (a b : TagM) : Int := if tagLt a b = true then -1 else if a = b then 0 else 1
theorem tagCmp_neg (a b : TagM) : tagCmp a b < 0 ↔ tagLt a b = true := by
  unfold tagCmp
  split
  · simp [*]
  · rename_i h
    split <;> simp [h]
theorem tagCmp_zero (a b : TagM) : tagCmp a b = 0 ↔ a = b := by
  unfold tagCmp
  split
  · rename_i h
    constructor
    · intro e; omega
    · intro e; subst e; rw [tagLt_irrefl] at h; cases h
  · split
    · simp [*]
    · simp [*]
theorem nanI_f (x : Int) : nanI_m x = false := by simp [nanI_m]
theorem nanU_f (x : Int) : nanU_m x = false := by simp [nanU_m]
theorem cmpI_eq (x y : Int) : cmpI_m x y = if x < y then -1 else if y < x then 1 else 0 := by unfold cmpI_m; simp [nanI_f]
theorem cmpU_eq (x y : Int) : cmpU_m x y = if x < y then -1 else if y < x then 1 else 0 := by unfold cmpU_m; simp [nanU_f]
theorem cmpOr2 (a b : Int) : cmpOr_m [a, b] = if a = 0 then b else a := by
  unfold cmpOr_m
  rw [show (((([a, b] : List Int).length : Int) - (0 : Int)).toNat + 1) = 3 from rfl]
  simp only [cmpOr_L1, ix, List.length_cons, List.length_nil]
  by_cases ha : a = 0 <;> by_cases hb : b = 0 <;> simp [ha, hb]
theorem icompare_eq (a b : IdM) : icompare_m a b = if a.origin < b.origin then -1 else if b.origin < a.origin then 1 else if a.seq < b.seq then -1 else if b.seq < a.seq then 1 else 0 := by
  unfold icompare_m
  rw [cmpOr2, cmpI_eq, cmpU_eq]
  by_cases h1 : a.origin < b.origin
  · simp [h1]
  · by_cases h2 : b.origin < a.origin
    · simp [h1, h2]
    · simp [h1, h2]
theorem icompareTag_eq (a b : TagM) : icompareTag_m a b = tagCmp a b := by
  unfold icompareTag_m tagCmp
  rw [cmpOr2, icompare_eq, cmpI_eq]
  by_cases h1 : a.id.origin < b.id.origin
  · simp [h1, tagLt]
  · by_cases h2 : b.id.origin < a.id.origin
    · have hne : ¬ a = b := fun e => by subst e; omega
      simp [h1, h2, tagLt, hne] <;> omega
    · have e1 : a.id.origin = b.id.origin := by omega
      by_cases h3 : a.id.seq < b.id.seq
      · simp [h1, h2, h3, tagLt] <;> omega
      · by_cases h4 : b.id.seq < a.id.seq
        · have hne : ¬ a = b := fun e => by subst e; omega
          simp [h1, h2, h3, h4, tagLt, hne] <;> omega
        · have e2 : a.id.seq = b.id.seq := by omega
          by_cases h5 : a.n < b.n
          · simp [h1, h2, h3, h4, h5, tagLt] <;> omega
          · by_cases h6 : b.n < a.n
            · have hne : ¬ a = b := fun e => by subst e; omega
              simp [h1, h2, h3, h4, h5, h6, tagLt, hne] <;> omega
            · have e3 : a.n = b.n := by omega
              have he : a = b := tag_ext e1 e2 e3
              subst he
              simp [tagLt]
theorem icheckTag_z (t : TagM) : icheckTag_m t = if (t.n < 0) ∨ (16 ≤ t.n) then 2 else if (t.id.origin < 0) ∨ (8 ≤ t.id.origin) ∨ (t.id.seq = 0) ∨ (1048576 < t.id.seq) then 2 else 0 := by
  unfold icheckTag_m icheck_m; simp only [icheckTag_c1_iff, icheck_c1_iff]
theorem lthere_iff (o : Int) : lthere_m o = true ↔ (0 ≤ o ∧ o < 8) := by unfold lthere_m; split <;> simp <;> omega
theorem containsF_eq {α : Type} [Inhabited α] [DecidableEq α] (s : List α) (f : α → Bool) : containsF_m s f = s.any f := by
  unfold containsF_m
  rcases indexF_cases s f with ⟨a, b, c, d⟩ | ⟨a, b⟩
  · rw [decide_eq_true a]; symm; rw [List.any_eq_true]; exact ⟨_, ix_memI s a b, c⟩
  · rw [a]; symm
    rw [show decide ((0 : Int) ≤ -1) = false from rfl, List.any_eq_false]
    intro x hx
    obtain ⟨k, hk, rfl⟩ := List.getElem_of_mem hx
    have := b (k : Int) (by omega) (by omega)
    rw [ix_at s hk] at this
    simp [this]
theorem strictF_iff {α : Type} [Inhabited α] [DecidableEq α] (l : List α) (c : α → α → Int) (tr : ∀ a b d, decide (c a b < 0) = true → decide (c b d < 0) = true → decide (c a d < 0) = true) : strictF_m l c = true ↔ l.Pairwise (fun a b => c a b < 0) := by
  have h := loop_pairs l (fun a b => decide (c a b < 0)) false (strictF_L1 l c) (fun fuel i _ => by
    rw [strictF_L1]
    split
    · by_cases h : (0 : Int) ≤ c (ix l (i - 1)) (ix l i)
      · rw [if_pos h, if_neg (by simp; omega)]
      · rw [if_neg h, if_pos (by simp; omega)]
    · rfl) (((l.length : Int) - (1 : Int)).toNat + 1) 1 (by omega) (by omega)
  have hp := pairs_iff l (fun a b => decide (c a b < 0)) tr
  simp only [decide_eq_true_eq] at hp
  unfold strictF_m
  rcases h with ⟨⟨q, a⟩, b⟩ | ⟨a, j, b, d, e⟩
  · rw [a]
    simp only [decide_eq_true_eq] at b
    exact ⟨fun _ => hp.1 b, fun _ => rfl⟩
  · rw [a]
    simp only [Bool.false_eq_true, false_iff]
    intro hw
    have := hp.2 hw j b d
    simp only [decide_eq_false_iff_not] at e
    exact e this
theorem mrise_eq (l : List TagM) : mrise_m l = strictF_m l icompareTag_m := by
  have key : ∀ fuel i, mrise_L1 l fuel i = strictF_L1 l icompareTag_m fuel i := by
    intro fuel
    induction fuel with
    | zero => intro i; rfl
    | succ fuel ih => intro i; rw [mrise_L1, strictF_L1, ih]
  unfold mrise_m strictF_m
  rw [key]
  rfl
theorem cmp_tr (a b d : TagM) (h1 : decide (icompareTag_m a b < 0) = true) (h2 : decide (icompareTag_m b d < 0) = true) : decide (icompareTag_m a d < 0) = true := by
  simp only [icompareTag_eq, decide_eq_true_eq, tagCmp_neg] at *
  exact tagLt_trans a b d h1 h2
def Rises (l : List TagM) : Prop := l.Pairwise (fun a b => tagLt a b = true)
theorem strictTag_iff (l : List TagM) : strictF_m l icompareTag_m = true ↔ Rises l := by
  rw [strictF_iff l _ cmp_tr]
  unfold Rises
  simp only [icompareTag_eq, tagCmp_neg]
theorem strictAdd_iff (l : List AddM) : strictF_m l ocheck2_m = true ↔ Rises (l.map (·.tag)) := by
  rw [strictF_iff l ocheck2_m (fun a b d => cmp_tr a.tag b.tag d.tag)]
  unfold Rises
  rw [List.pairwise_map]
  have : ∀ a b : AddM, ocheck2_m a b = icompareTag_m a.tag b.tag := fun _ _ => rfl
  simp only [this, icompareTag_eq, tagCmp_neg]
theorem mtags_eq (l : List PutM) : mtags_m l = l.map (·.tag) := by
  unfold mtags_m
  rw [loop_fold0 l (fun acc x => acc ++ [x.tag]) (mtags_L1 l) (fun _ _ _ _ => rfl)]
  simp only [foldl_map_app, List.nil_append]
theorem bsearch_spec {x : List TagM} (hx : Rises x) (t : TagM) : ∃ q : Int, (bsearch_m x t icompareTag_m) = (q, decide (t ∈ x)) ∧ 0 ≤ q ∧ q ≤ x.length ∧ (∀ k : Int, 0 ≤ k → k < q → tagLt (ix x k) t = true) ∧ (∀ k : Int, q ≤ k → k < x.length → tagLt (ix x k) t = false) := by
  have hp : ∀ a b : Int, 0 ≤ a → a < b → b < x.length → tagLt (ix x a) (ix x b) = true := fun a b h0 h1 h2 => by
    have := List.pairwise_iff_getElem.1 hx a.toNat b.toNat (by omega) (by omega) (by omega)
    rw [← ix_at x (by omega), ← ix_at x (by omega)] at this
    rw [show ((a.toNat : Nat) : Int) = a by omega, show ((b.toNat : Nat) : Int) = b by omega] at this
    exact this
  obtain ⟨q, h, h0, h1, h2, h3⟩ := bs_spec x (fun a => icompareTag_m a t) (bsearch_L1 x t icompareTag_m) (fun _ _ _ => rfl) (fun a b ha hab hb hc => by
      simp only [icompareTag_eq, tagCmp_neg] at *
      exact tagLt_trans _ _ _ (hp a b ha hab hb) hc) (((x.length : Int) - (0 : Int)).toNat + 1) 0 x.length (by omega) (by omega) (by omega) (by omega) (fun _ _ _ => by omega) (fun _ _ _ => by omega)
  simp only [icompareTag_eq, tagCmp_neg] at h2 h3
  refine ⟨q, ?_, h0, h1, h2, fun k a b => by simpa using h3 k a b⟩
  unfold bsearch_m
  rw [h]
  simp only
  split
  · rename_i hlt
    congr 1
    rw [icompareTag_eq, Bool.eq_iff_iff, beq_iff_eq, tagCmp_zero, decide_eq_true_eq]
    constructor
    · intro e; rw [← e]; exact ix_memI x h0 hlt
    · intro hm
      obtain ⟨k, hk, rfl⟩ := List.getElem_of_mem hm
      rcases Int.lt_trichotomy (k : Int) q with hkq | hkq | hkq
      · have := h2 k (by omega) hkq
        rw [ix_at x hk, tagLt_irrefl] at this; cases this
      · rw [← hkq, ix_at x hk]
      · have h4 := hp q k h0 hkq (by omega)
        rw [ix_at x hk] at h4
        exact absurd h4 (h3 q (by omega) hlt)
  · rename_i hge
    congr 1
    symm; rw [decide_eq_false_iff_not]
    intro hm
    obtain ⟨k, hk, rfl⟩ := List.getElem_of_mem hm
    have := h2 k (by omega) (by omega)
    rw [ix_at x hk, tagLt_irrefl] at this; cases this
theorem bs_mem {x : List TagM} (hx : Rises x) (t : TagM) : (bsearch_m x t icompareTag_m).2 = decide (t ∈ x) := by
  obtain ⟨q, h, _⟩ := bsearch_spec hx t
  rw [h]
theorem has_eq {l : List TagM} (h : Rises l) (t : TagM) : mhas_m l t = decide (t ∈ l) := bs_mem h t
theorem to12_eq (s : SetM) : to12_m s = s := by
  unfold to12_m
  rw [loop_fold0' s.adds (fun acc x => acc ++ [x]) (to12_L1 s) (fun _ _ _ _ => rfl)]
  simp only [foldl_map_app (fun x : AddM => x), List.nil_append, List.map_id']
theorem to13_eq (s : MapM) : to13_m s = s := by
  unfold to13_m
  rw [loop_fold0' s.puts (fun acc x => acc ++ [x]) (to13_L1 s) (fun _ _ _ _ => rfl)]
  simp only [foldl_map_app (fun x : PutM => x), List.nil_append, List.map_id']
theorem to14_eq (s : ObjM) : to14_m s = s := by unfold to14_m; rw [to12_eq, to13_eq]; rfl
theorem sameTags_refl (a : List TagM) : sameTags_m a a = true := by
  unfold sameTags_m
  rw [if_pos rfl]
  obtain ⟨q, h⟩ := loop_all0 a (fun _ => true) false (sameTags_L1 a a) (fun fuel i _ => by rw [sameTags_L1]; simp)
  rw [h]; simp
theorem sameEffect_refl (a : EffectM) : sameEffect_m a a = true := by unfold sameEffect_m; simp [sameTags_refl]
theorem great14_bnd {s : ObjM} {e : EffectM} (h : ¬ great14_m s e = true) : s.setF.adds.length ≤ 200 ∧ s.setF.gone.length ≤ 200 ∧ s.map.puts.length ≤ 100 ∧ s.map.gone.length ≤ 200 ∧ e.tags.length ≤ 100 ∧ e.name.length ≤ 1000 := by
  unfold great14_m great12_m great13_m at h
  repeat' split at h
  all_goals simp_all
  all_goals omega
end Go.Proofs.YtdckemiebnfjcaaGreatDoor
end

section
set_option linter.unusedVariables false
set_option linter.unusedSimpArgs false
namespace Go.Proofs.YtdckemiebnfjcaaGreatDoor
open Go.RowKit
section
variable [Dfs] {P : Program} {n : Nat} {env : Env} {S : World → Prop} {o : Oper}
theorem y_capl {x : Operand} {t e : Nat} {b : Option Addr} {l c : Nat} (ho : o.op = .call { callee := .builtin .cap, args := #[x], argTypes := #[t] }) (hx : env.ev x = some (.slice b l c)) (ht : P.underlying t = some (.slice e)) : Yld P n env S o (.int .i64 c) := fun a r w _ =>
  run_builtin1 ho (r.eval hx) fun cs => by
    have h : (Builtin.cap_ #[t] o.type #[.slice b l c]).run P w = .ok (goInt c) w := by simp [Builtin.cap_, run_underlying ht]
    simp only [builtin, Sem.run_bind, h, Result.andThen_ok]
    rfl
end
theorem zeroCells_flat {α : Type} {enc : α → List Value} {m : Nat} (u : α) (hm : (enc u).length = m) (k : Nat) : Builtin.zeroCells (enc u).toArray k = ((List.replicate k u).flatMap enc).toArray := by
  rw [rep_flat, ← madeCells_eq (enc u) k m hm]
  unfold Builtin.zeroCells madeCells
  simp [hm]
section
variable [Dfs] {P : Program} {n : Nat} {env : Env} {w : World} {o : Oper} {K : Env → World → Prop} {H : Heap}
theorem a_appz {α : Type} {enc : α → List Value} {t tn e m by' c l : Nat} {x y : Operand} {A : Option Addr} {xs : List α} {u : α} {z : List Value} {k kn : IntKind} {q : Int} (ho : o.op = .call { callee := .builtin .append, args := #[x, y], argTypes := #[t, tn] }) {d : Nat} (hd : o.dst = some d) (hn : Nat.blt d n = true)
    (hx : env.ev x = some (.slice A l c)) (hy : env.ev y = some (.int k q)) (hl : l = xs.length) (ht : elemSize P t = some (e, m)) (htn : P.underlying tn = some (.int kn)) (hz : zeroCells P e = some z) (hzu : z = enc u) (hby : (P.info? e).map (·.bytes) = some by') (hm : ∀ x, (enc x).length = m) (hm0 : 0 < m)
    (hsrc : ∀ ad, A = some ad → ∀ j v, (xs.flatMap enc)[j]? = some v → w.cell? (ad.add j) = some v) (hA : A = none → xs.length = 0) (h0 : 0 < q) (hg : (c : Int) < l + q) (h63 : l + q ≤ 9223372036854775807) (hbytes : (xs.length + q.toNat) * by' ≤ 140737488355328) (h : Hp w H)
    (hK : ∀ g c' sp' w', Ow (some ⟨g, 0, none⟩) (xs ++ List.replicate q.toNat u).length c' m ((xs ++ List.replicate q.toNat u).flatMap enc) sp' → Hp w' (H ++ [(some g, Cl ((xs ++ List.replicate q.toNat u).flatMap enc ++ sp') e)]) → Fr [] w w' → w.heap.size ≤ g → K ((d, .slice (some ⟨g, 0, none⟩) (xs ++ List.replicate q.toNat u).length c') :: env) w') : Act1 P n env w o K := by
  subst hl
  obtain ⟨j, rfl⟩ := Int.eq_ofNat_of_zero_le (Int.le_of_lt h0)
  simp only [Int.toNat_natCast] at hK hbytes
  obtain ⟨hu, hs⟩ := elemSize_spec ht
  unfold zeroCells at hz
  cases hq : P.info? e with
  | none => simp [hq] at hz
  | some inf =>
    cases hzz : inf.zero with
    | none => simp [hq, hzz] at hz
    | some z0 =>
      have hz' : z0.cells = (enc u).toArray := by simp [hq, hzz] at hz; rw [← hzu, ← hz]
      have hms : inf.size = m := by simpa [hq] using hs
      have hb : inf.bytes = by' := by simpa [hq] using hby
      have hold : (Builtin.firstCells inf.size xs.length (.slice A xs.length c)).run P w.drew = .ok (xs.flatMap enc).toArray w.drew := by
        cases A with
        | none =>
          have hx0 : xs = [] := List.eq_nil_of_length_eq_zero (hA rfl)
          subst hx0
          simp [Builtin.firstCells]
        | some ad => exact run_firstCells_some (P := P) w.drew inf.size xs.length ad xs.length c (xs.flatMap enc) (by rw [fl_len hm, hms]) (by simpa using hsrc ad rfl)
      have h63' : ((xs.length + j : Nat) : Int) ≤ 9223372036854775807 := by omega
      have hjb : j * inf.bytes ≤ 281474976710656 := by
        rw [hb]
        have := Nat.mul_le_mul_right by' (show j ≤ xs.length + j by omega)
        omega
      have hrun := Lib.run_append_grow_zeros (P := P) w t tn o.type e inf z0 k kn hu htn hq hzz A xs.length c (xs.flatMap enc) hold j (by omega) (by omega) (by omega) h63' hjb (growslice_fits (by omega) (by rw [hb]; exact hbytes))
      rw [hz', zeroCells_flat u (hm u), zeroCells_flat u (hm u)] at hrun
      have hge := grownCap_ge w (xs.length + j) c e
      have hcm := grownCap_le_maxLen w (xs.length + j) c e (by unfold maxLen; omega)
      have e1 : ((xs.flatMap enc).toArray ++ ((List.replicate j u).flatMap enc).toArray ++ ((List.replicate (grownCap w (xs.length + j) c e - (xs.length + j)) u).flatMap enc).toArray) = ((xs ++ List.replicate j u).flatMap enc ++ (List.replicate (grownCap w (xs.length + j) c e - (xs.length + j)) u).flatMap enc).toArray := by simp
      rw [e1] at hrun
      have hL : (xs ++ List.replicate j u).length = xs.length + j := by simp
      have := hK w.heap.size (grownCap w (xs.length + j) c e) ((List.replicate (grownCap w (xs.length + j) c e - (xs.length + j)) u).flatMap enc) _ ⟨by rw [fl_len hm], .inr ⟨_, rfl, by rw [← List.flatMap_append, fl_len hm, List.length_append, hL, List.length_replicate]; congr 1; omega, by rw [hL]; exact hge, hcm⟩⟩ (h.drew.alloc _) ((Fr.drew w).step0 (Fr.alloc w.drew _)) (Nat.le_refl _)
      rw [hL] at this
      refine a_run hd hn (fun a r => ?_) this
      refine run_builtin2 ho (r.eval hx) (r.eval hy) fun cs => ?_
      simp only [builtin, Sem.run_bind, hrun, Result.andThen_ok]
      rfl
omit [Dfs] in
theorem fl_splice {α : Type} {enc : α → List Value} {m : Nat} (hm : ∀ x, (enc x).length = m) (xs ys : List α) (sp : List Value) (p : Nat) (h : p + ys.length ≤ xs.length) :
    (xs.flatMap enc ++ sp).take (0 + p * m) ++ ys.flatMap enc ++ (xs.flatMap enc ++ sp).drop (0 + p * m + (ys.flatMap enc).length) = (xs.take p ++ ys ++ xs.drop (p + ys.length)).flatMap enc ++ sp := by
  have hlen := fl_len hm xs
  have h1 : p * m ≤ xs.length * m := Nat.mul_le_mul_right m (by omega)
  have h2 : (p + ys.length) * m ≤ xs.length * m := Nat.mul_le_mul_right m h
  rw [Nat.zero_add, fl_len hm ys, ← Nat.add_mul, List.take_append_of_le_length (by rw [hlen]; exact h1), List.drop_append_of_le_length (by rw [hlen]; exact h2), fl_take hm, fl_drop hm]
  simp
theorem a_copyM {α : Type} {enc : α → List Value} {t t' e m g dc g2 b2 sl sc i l c dl k : Nat} {x y : Operand} {xs ys : List α} {sp : List Value} {p : Int} (ho : o.op = .call { callee := .builtin .copy, args := #[x, y], argTypes := #[t, t'] }) {d : Nat} (hd : o.dst = some d) (hn : Nat.blt d n = true)
    (hx : env.ev x = some (.slice (some ⟨g, 0 + p.toNat * m, none⟩) dl dc)) (hy : env.ev y = some (.slice (some ⟨g2, b2, none⟩) sl sc)) (ht : elemSize P t = some (e, m)) (hm : ∀ x, (enc x).length = m) (hm0 : 0 < m) (h1 : ∀ x, ∀ v ∈ enc x, v.oneCell' = true) (hk : Nat.min sl dl = ys.length)
    (hvs : w.rangeAt g2 b2 (ys.flatMap enc)) (how : Ow (some ⟨g, 0, none⟩) l c m (xs.flatMap enc) sp) (hl : l = xs.length) (h : Hp w H) (hi : H[i]? = some (blkOf (some ⟨g, 0, none⟩), Cl (xs.flatMap enc ++ sp) k)) (hfit : p.toNat + ys.length ≤ xs.length)
    (hK : ∀ w', Ow (some ⟨g, 0, none⟩) l c m ((xs.take p.toNat ++ ys ++ xs.drop (p.toNat + ys.length)).flatMap enc) sp → Hp w' (H.set i (blkOf (some ⟨g, 0, none⟩), Cl ((xs.take p.toNat ++ ys ++ xs.drop (p.toNat + ys.length)).flatMap enc ++ sp) k)) → Fr [g] w w' → K ((d, (.int .i64 ys.length)) :: env) w') : Act1 P n env w o K := by
  subst hl
  have hlen := fl_len hm xs
  have hys := fl_len hm ys
  have h2 : (p.toNat + ys.length) * m ≤ xs.length * m := Nat.mul_le_mul_right m hfit
  rw [Nat.add_mul] at h2
  refine a_copy ho hd hn hx hy ht hk hvs hys (fun v hv => by obtain ⟨x, _, hx⟩ := List.mem_flatMap.1 hv; exact h1 x v hx) h hi (by rw [List.length_append, hlen, hys]; omega) fun w' hp hf _ => ?_
  rw [fl_splice hm xs ys sp p.toNat hfit] at hp
  have hL : (xs.take p.toNat ++ ys ++ xs.drop (p.toNat + ys.length)).length = xs.length := by simp; omega
  refine hK w' ⟨by rw [fl_len hm, hL], ?_⟩ hp hf
  rcases how.2 with ⟨h3, _⟩ | ⟨g', e2, h3, h4, h5⟩
  · cases h3
  · exact .inr ⟨g', e2, by rw [← h3, List.length_append, List.length_append, fl_len hm, hL, hlen], h4, h5⟩
theorem a_overlaps {f t tR e m g b g2 b2 la ca lb cb i j ti tj : Nat} {fn : Func} {xs : List Operand} {ts : Array TypeId} {cs cs2 : List Value} (ho : o.op = .call { callee := .value (.func f), args := xs.toArray, argTypes := ts }) {d : Nat} (hd : o.dst = some d) (hn : Nat.blt d n = true)
    (hf : P.funcs[f]? = some fn) (hname : (fn.name == "runtime.NumGoroutine") = false) (hb : fn.body.isNone = true) (hnx : Extern.findNext fn = none) (hx : Extern.find fn = some (Extern.SlicesOverlaps.overlaps #[t, t] #[tR])) (ht : elemSize P t = some (e, m))
    (hxs : env.evs xs = some [.slice (some ⟨g, b, none⟩) la ca, .slice (some ⟨g2, b2, none⟩) lb cb]) (h : Hp w H) (hi : H[i]? = some (some g, Cl cs ti)) (hj : H[j]? = some (some g2, Cl cs2 tj)) (hij : i ≠ j) (hc : cs2.length ≠ 0)
    (hK : K ((d, .bool false) :: env) w) : Act1 P n env w o K := by
  obtain ⟨hu, hs⟩ := elemSize_spec ht
  have hg := h.at hi
  have hg2 := h.at hj
  have hne := h.ne hi hj hij
  have hov := Lib.run_overlaps_apart (P := P) w t tR e hu m (fun w => run_sizeOf hs w) ⟨g, b, none⟩ ⟨g2, b2, none⟩ la ca lb cb hne ti tj cs.length cs2.length (by simp [World.shape?, hg]) (by simp [World.shape?, hg2]) hc (by simp [World.frozen?, hg]) (by simp [World.frozen?, hg])
  refine a_run hd hn (v := .bool false) (w' := w) (fun a r => ?_) hK
  have e' : (xs.toArray.map a.eval) = #[.slice (some ⟨g, b, none⟩) la ca, .slice (some ⟨g2, b2, none⟩) lb cb] := by rw [List.map_toArray, r.evals hxs]
  unfold execOp
  simp only [ho, resolve, e', Act.eval, Deferred.ofValue, Sem.run_bind, Sem.run_pure, Result.andThen_ok, invoke]
  simp [run_callFunc_extern hf hname hb hnx hx, hov]
theorem a_shift {α : Type} {enc : α → List Value} {t t' e m g dc sl sc j dl ty mm : Nat} {x y : Operand} {xs : List α} {sp : List Value} {p i : Int} (ho : o.op = .call { callee := .builtin .copy, args := #[x, y], argTypes := #[t, t'] }) {d : Nat} (hd : o.dst = some d) (hn : Nat.blt d n = true)
    (hx : env.ev x = some (.slice (some ⟨g, 0 + p.toNat * m, none⟩) dl dc)) (hy : env.ev y = some (.slice (some ⟨g, 0 + i.toNat * m, none⟩) sl sc)) (ht : elemSize P t = some (e, m)) (hm : ∀ x, (enc x).length = m) (h1 : ∀ x, ∀ v ∈ enc x, v.oneCell' = true) (h0 : 0 ≤ i) (hp : p.toNat = i.toNat + mm) (hin : i ≤ xs.length) (hk : Nat.min sl dl = xs.length - i.toNat)
    (h : Hp w H) (hi : H[j]? = some (some g, Cl (xs.flatMap enc ++ sp) ty)) (hsp : mm * m ≤ sp.length)
    (hK : ∀ hole w', hole.length = mm * m → Hp w' (H.set j (some g, Cl ((xs.take i.toNat).flatMap enc ++ hole ++ ((xs.drop i.toNat).flatMap enc ++ sp.drop (mm * m))) ty)) → Fr [g] w w' → K ((d, (.int .i64 ((xs.length - i.toNat : Nat) : Int))) :: env) w') : Act1 P n env w o K := by
  have hil : i.toNat ≤ xs.length := by omega
  have hlen := fl_len hm xs
  have hle : i.toNat * m ≤ xs.length * m := Nat.mul_le_mul_right m hil
  have hA := fl_take hm (l := xs) (k := i.toNat)
  have hB := fl_drop hm (l := xs) (k := i.toNat)
  have hAl : ((xs.take i.toNat).flatMap enc).length = i.toNat * m := by rw [fl_len hm, List.length_take]; congr 1; omega
  have hBl : ((xs.drop i.toNat).flatMap enc).length = (xs.length - i.toNat) * m := by rw [fl_len hm, List.length_drop]
  have hsplit : xs.flatMap enc = (xs.take i.toNat).flatMap enc ++ (xs.drop i.toNat).flatMap enc := by rw [← List.flatMap_append, List.take_append_drop]
  have hvs : w.rangeAt g (0 + i.toNat * m) ((xs.drop i.toNat).flatMap enc) := by
    have := range_of (k := 0 + i.toNat * m) (m := ((xs.drop i.toNat).flatMap enc).length) h hi
    rw [hsplit, Nat.zero_add, List.append_assoc, ← hAl, List.drop_left, List.take_left] at this
    rw [Nat.zero_add, ← hAl]; exact this
  have hs : (xs.length - i.toNat) * m = xs.length * m - i.toNat * m := Nat.sub_mul ..
  refine a_copy (vs := (xs.drop i.toNat).flatMap enc) ho hd hn hx hy ht hk hvs hBl (fun v hv => by obtain ⟨x, _, hx⟩ := List.mem_flatMap.1 hv; exact h1 x v hx) h hi (by rw [List.length_append, hlen, hBl, hp, Nat.add_mul]; omega) fun w' hp' hf _ => ?_
  refine hK (((xs.drop i.toNat).flatMap enc ++ sp).take (mm * m)) w' (by rw [List.length_take, List.length_append]; omega) ?_ hf
  have e1 : (xs.flatMap enc ++ sp).take (0 + p.toNat * m) = (xs.take i.toNat).flatMap enc ++ ((xs.drop i.toNat).flatMap enc ++ sp).take (mm * m) := by
    rw [Nat.zero_add, hp, Nat.add_mul, hsplit, List.append_assoc, List.take_append, hAl, Nat.add_sub_cancel_left, List.take_of_length_le (by rw [hAl]; omega)]
  have e2 : (xs.flatMap enc ++ sp).drop (0 + p.toNat * m + ((xs.drop i.toNat).flatMap enc).length) = sp.drop (mm * m) := by
    rw [Nat.zero_add, hp, Nat.add_mul, hBl, List.drop_append, List.drop_of_length_le (by omega), List.nil_append, hlen]
    congr 1; omega
  rw [e1, e2] at hp'
  simpa only [List.append_assoc] using hp'
theorem a_fill {α : Type} {enc : α → List Value} {t t' e m g dc g2 b2 sl sc j dl ty : Nat} {x y : Operand} {ys : List α} {us hole bs : List Value} {i : Int} (ho : o.op = .call { callee := .builtin .copy, args := #[x, y], argTypes := #[t, t'] }) {d : Nat} (hd : o.dst = some d) (hn : Nat.blt d n = true)
    (hx : env.ev x = some (.slice (some ⟨g, 0 + i.toNat * m, none⟩) dl dc)) (hy : env.ev y = some (.slice (some ⟨g2, b2, none⟩) sl sc)) (ht : elemSize P t = some (e, m)) (hm : ∀ x, (enc x).length = m) (h1 : ∀ x, ∀ v ∈ enc x, v.oneCell' = true) (hk : Nat.min sl dl = ys.length)
    (hvs : w.rangeAt g2 b2 (ys.flatMap enc)) (h : Hp w H) (hi : H[j]? = some (some g, Cl (us ++ hole ++ bs) ty)) (ha : us.length = i.toNat * m) (hh : hole.length = ys.length * m)
    (hK : ∀ w', Hp w' (H.set j (some g, Cl (us ++ ys.flatMap enc ++ bs) ty)) → Fr [g] w w' → K ((d, (.int .i64 (ys.length : Int))) :: env) w') : Act1 P n env w o K := by
  have hys := fl_len hm ys
  refine a_copy (vs := ys.flatMap enc) ho hd hn hx hy ht hk hvs hys (fun v hv => by obtain ⟨x, _, hx⟩ := List.mem_flatMap.1 hv; exact h1 x v hx) h hi (by rw [List.length_append, List.length_append, ha, hys, hh]; omega) fun w' hp hf _ => hK w' ?_ hf
  have e1 : (us ++ hole ++ bs).take (0 + i.toNat * m) = us := by rw [Nat.zero_add, ← ha, List.append_assoc, List.take_left]
  have e2 : (us ++ hole ++ bs).drop (0 + i.toNat * m + (ys.flatMap enc).length) = bs := by
    rw [Nat.zero_add, hys, ← hh, ← ha, ← List.length_append, List.drop_left]
  rw [e1, e2] at hp
  exact hp
end
section
variable [Dfs] {P : Program} {n : Nat} {env : Env} {S : World → Prop} {o : Oper}
theorem y_cutV {t e m l c g : Nat} {x : Operand} {lo hi : Option Operand} {p q : Int} (ho : o.op = .slice t x lo hi none) (hx : env.ev x = some (.slice (some ⟨g, 0, none⟩) l c)) (ht : elemSize P t = some (e, m)) (hlo : cutLo env lo = some p) (hhi : cutHi env l hi = some q)
    (h0 : 0 ≤ p) (h1 : p ≤ q) (h2 : q ≤ c) (hlc : l ≤ c) (hpc : p < c) : Yld P n env S o (.slice (some ⟨g, 0 + p.toNat * m, none⟩) (q.toNat - p.toNat) (c - p.toNat)) := by
  have := y_cutlS (P := P) (n := n) (S := S) ho hx ht hlo hhi h0 h1 h2 hlc
  rw [cutAd_in (by omega)] at this
  exact this
theorem y_cutE {t e m l c g : Nat} {x : Operand} {hi : Option Operand} {q : Int} (ho : o.op = .slice t x none hi none) (hx : env.ev x = some (.slice (some ⟨g, 0, none⟩) l c)) (ht : elemSize P t = some (e, m)) (hhi : cutHi env l hi = some q)
    (h1 : 0 ≤ q) (h2 : q ≤ c) (hlc : l ≤ c) (hpc : 0 < c) : Yld P n env S o (.slice (some ⟨g, 0, none⟩) q.toNat c) := by
  have := y_cutV (P := P) (n := n) (S := S) ho hx ht (p := 0) rfl hhi (by omega) h1 h2 hlc (by omega)
  simpa using this
end
section
variable {w : World} {H : Heap} {α : Type} {enc : α → List Value} {m i e g : Nat} {xs : List α} {sp : List Value}
theorem own_range {us : List Value} (h : Hp w H) (hi : H[i]? = some (some g, Cl (us ++ sp) e)) : w.rangeAt g 0 us := by
  have := range_of (k := 0) (m := us.length) h hi
  rw [List.drop_zero, List.take_left] at this
  exact this
theorem own_rangeD (hm : ∀ x, (enc x).length = m) (h : Hp w H) (hi : H[i]? = some (some g, Cl (xs.flatMap enc ++ sp) e)) (p : Nat) : w.rangeAt g (0 + p * m) ((xs.drop p).flatMap enc) := by
  rcases Nat.le_total p xs.length with hp | hp
  · have := range_of (k := 0 + p * m) (m := ((xs.drop p).flatMap enc).length) h hi
    have hA : ((xs.take p).flatMap enc).length = p * m := by rw [fl_len hm, List.length_take]; congr 1; omega
    have hs : xs.flatMap enc = (xs.take p).flatMap enc ++ (xs.drop p).flatMap enc := by rw [← List.flatMap_append, List.take_append_drop]
    rw [hs, Nat.zero_add, List.append_assoc, ← hA, List.drop_left, List.take_left] at this
    rw [Nat.zero_add, ← hA]; exact this
  · rw [List.drop_of_length_le hp]; intro j v hj; simp at hj
theorem own_srcT (hm : ∀ x, (enc x).length = m) (h : Hp w H) (hi : H[i]? = some (some g, Cl (xs.flatMap enc ++ sp) e)) (p : Nat) : ∀ ad, some (⟨g, 0 + (0 : Int).toNat * m, none⟩ : Addr) = some ad → ∀ j v, ((xs.take p).flatMap enc)[j]? = some v → w.cell? (ad.add j) = some v := fun ad e j v hj => by
  injection e with e
  subst e
  have h0 : (xs.flatMap enc ++ sp)[j]? = some v := by
    have hs : xs.flatMap enc = (xs.take p).flatMap enc ++ (xs.drop p).flatMap enc := by rw [← List.flatMap_append, List.take_append_drop]
    rw [hs, List.append_assoc, List.getElem?_append_left (List.getElem?_eq_some_iff.1 hj).1]; exact hj
  rw [Addr.add_mid]
  have := cell_of h hi h0
  simpa using this
end
theorem keys1 {k : Option Nat} {o o' : Obj} {x : Nat} (h : x ∈ keys [(k, o)]) : x ∈ keys [(k, o')] := by cases k <;> exact h
theorem Ow.lc {A : Option Addr} {l c m : Nat} {xs sp : List Value} (h : Ow A l c m xs sp) : l ≤ c ∧ c ≤ 9223372036854775807 := by
  rcases h.2 with ⟨_, h0, h1, _⟩ | ⟨g, _, _, h1, h2⟩
  · omega
  · unfold maxLen at h2; omega
theorem Ow.room {A : Option Addr} {l c m k : Nat} {xs sp : List Value} (h : Ow A l c m xs sp) (hl : l + k ≤ c) : k * m ≤ sp.length := by
  have h0 := h.1
  rcases h.2 with ⟨_, h2, h3, h4⟩ | ⟨g, _, h2, h3, h4⟩
  · have : k = 0 := by omega
    subst this; simp
  · rw [List.length_append, h0] at h2
    have := Nat.mul_le_mul_right m hl
    rw [Nat.add_mul] at this
    omega
theorem ins_end {α : Type} (s v : List α) {i : Int} (h : i = s.length) : s.take i.toNat ++ v ++ s.drop i.toNat = s ++ v := by
  subst h; simp
theorem ins_grow {α : Type} (s v : List α) (z : α) {i q k : Nat} (hi : i ≤ s.length) (hq : q = i + v.length) (hk : k = s.length + v.length - i) :
    s.take i ++ v ++ s.drop i = ((((s.take i ++ List.replicate k z).take i ++ v ++ (s.take i ++ List.replicate k z).drop (i + v.length)).take q) ++ s.drop i ++ ((s.take i ++ List.replicate k z).take i ++ v ++ (s.take i ++ List.replicate k z).drop (i + v.length)).drop (q + (s.drop i).length)) := by
  subst hq hk
  have h1 : (s.take i).length = i := by rw [List.length_take]; omega
  have e1 : (s.take i ++ List.replicate (s.length + v.length - i) z).take i = s.take i := by
    rw [List.take_append_of_le_length (by omega), List.take_of_length_le (by omega)]
  rw [e1]
  have h3 : ((s.take i ++ List.replicate (s.length + v.length - i) z).drop (i + v.length)).length = (s.drop i).length := by
    rw [List.length_drop, List.length_append, h1, List.length_replicate, List.length_drop]; omega
  revert h3
  generalize (s.take i ++ List.replicate (s.length + v.length - i) z).drop (i + v.length) = R
  intro h3
  have e2 : (s.take i ++ v).length = i + v.length := by rw [List.length_append, h1]
  generalize s.take i ++ v = T at e2 ⊢
  generalize s.drop i = D at h3 ⊢
  rw [← e2, List.take_left, List.drop_of_length_le (by rw [List.length_append]; omega), List.append_nil]
theorem Ow.ins {α : Type} {enc : α → List Value} {m l c g : Nat} {s v : List α} {sp : List Value} {i : Nat} (hm : ∀ x, (enc x).length = m) (h : Ow (some ⟨g, 0, none⟩) l c m (s.flatMap enc) sp) (hl : l = s.length) (hi : i ≤ s.length) (hc : l + v.length ≤ c) : Ow (some ⟨g, 0, none⟩) (s.take i ++ v ++ s.drop i).length c m ((s.take i ++ v ++ s.drop i).flatMap enc) (sp.drop (v.length * m)) := by
  subst hl
  have hroom := h.room hc
  have hL : (s.take i ++ v ++ s.drop i).length = s.length + v.length := by simp; omega
  refine ⟨fl_len hm _, ?_⟩
  rcases h.2 with ⟨h0, _⟩ | ⟨g', h1, h2, h3, h4⟩
  · cases h0
  · refine .inr ⟨g', h1, ?_, by omega, h4⟩
    rw [List.length_append, fl_len hm] at h2
    rw [List.length_append, fl_len hm, hL, List.length_drop, Nat.add_mul]
    omega
end Go.Proofs.YtdckemiebnfjcaaGreatDoor
end

/- Walks printed by gen2.py out of our own specifications: what the functions named below do. -/
import Derived.Test.YtdgllcmlfblelaaGreatDoorSc
import Derived.Test.YtdgllcmlfblelaaGreatDoorBf
set_option linter.unusedSimpArgs false
set_option linter.unusedVariables false
namespace Go.Proofs.YtdgllcmlfblelaaGreatDoor
open Go.RowKit


theorem iread_eq : iread_m = r5read_m := rfl
theorem ireadTag_eq : ireadTag_m = r5readTag_m := by funext t; unfold ireadTag_m; rw [iread_eq]; rfl
theorem lread_eq : lread_m = r9read_m := rfl
theorem id_ok (T : RdM) : 0 ≤ (r5read_m T).1.seq ∧ (r5read_m T).1.seq ≤ 4294967295 := by
  unfold r5read_m
  repeat' split
  all_goals (dsimp only; omega)
theorem tag_ok (T : RdM) : tagOk (r5readTag_m T).1 := by
  have h := id_ok T
  unfold r5readTag_m tagOk
  split
  · exact h
  · exact ⟨Int.le_refl _, show (0 : Int) ≤ 4294967295 by decide⟩
theorem time_ok (T : RdM) : 0 ≤ (r9read_m T).1.time := by
  unfold r9read_m
  split
  · dsimp only; omega
  · exact Int.le_refl _
/-- Tags, as many as are asked for, as long as nothing is wrong. -/
def gl : Nat → Int → List TagM → RdM → List TagM × RdM
  | 0, _, u, T => (u, T)
  | f + 1, k, u, T => if 0 < k ∧ T.f.e = 0 then gl f (k - 1) (u ++ [(r5readTag_m T).1]) (r5readTag_m T).2 else (u, T)
theorem gl_ok : ∀ (f : Nat) (k : Int) (u : List TagM) (T : RdM), (∀ x ∈ u, tagOk x) → ∀ x ∈ (gl f k u T).1, tagOk x
  | 0, k, u, T, h => h
  | f + 1, k, u, T, h => by
    rw [gl]
    split
    · exact gl_ok f _ _ _ (fun x hx => by
        rcases List.mem_append.1 hx with hx | hx
        · exact h x hx
        · rw [List.mem_singleton.1 hx]; exact tag_ok T)
    · exact h
theorem gl_o1 (t : RdM) : ∀ (f : Nat) (k : Int) (u : List TagM) (T : RdM), ∃ k', oread_L1 t f k u T = .inr (k', (gl f k u T).1, (gl f k u T).2)
  | 0, k, u, T => ⟨k, rfl⟩
  | f + 1, k, u, T => by
    rw [oread_L1, gl, ireadTag_eq]
    have h := oread_c1_iff t k u T
    by_cases c : 0 < k ∧ T.f.e = 0
    · rw [if_pos (h.2 c), if_pos c]; exact gl_o1 t f _ _ _
    · rw [if_neg (fun q => c (h.1 q)), if_neg c]; exact ⟨k, rfl⟩
theorem gl_o2 (t : RdM) : ∀ (f : Nat) (k : Int) (u : List TagM) (T : RdM), ∃ k', oread_L2 t f k u T = .inr (k', (gl f k u T).1, (gl f k u T).2)
  | 0, k, u, T => ⟨k, rfl⟩
  | f + 1, k, u, T => by
    rw [oread_L2, gl, ireadTag_eq]
    have h := oread_c2_iff t k u T
    by_cases c : 0 < k ∧ T.f.e = 0
    · rw [if_pos (h.2 c), if_pos c]; exact gl_o2 t f _ _ _
    · rw [if_neg (fun q => c (h.1 q)), if_neg c]; exact ⟨k, rfl⟩
abbrev rA (t : RdM) := rint_m t 6
abbrev rB (t : RdM) := rtext_m (rA t).2 12
abbrev rC (t : RdM) := rsigned_m (rB t).2
abbrev rD (t : RdM) := r5readTag_m (rC t).2
abbrev rS (t : RdM) := r9read_m (rD t).2
abbrev rN1 (t : RdM) := rint_m (rS t).2 4096
abbrev rN2 (t : RdM) := rint_m (rD t).2 4096
theorem gl_r1 (t : RdM) : ∀ (f : Nat) (i : Int) (u : List TagM) (T : RdM), ∃ j, r14read_L1 t f i u T.s T.a T.f.atF T.f.e = .inr (j, (gl f ((rN1 t).1 - i) u T).1, (gl f ((rN1 t).1 - i) u T).2.s, (gl f ((rN1 t).1 - i) u T).2.a, (gl f ((rN1 t).1 - i) u T).2.f.atF, (gl f ((rN1 t).1 - i) u T).2.f.e)
  | 0, i, u, T => ⟨i, rfl⟩
  | f + 1, i, u, T => by
    have h := r14read_c1_iff t i u T.s T.a T.f.atF T.f.e
    rw [r14read_L1, gl]
    by_cases c : i < (rN1 t).1 ∧ T.f.e = 0
    · have c2 : 0 < (rN1 t).1 - i ∧ T.f.e = 0 := ⟨by have := c.1; omega, c.2⟩
      rw [if_pos (h.2 c), if_pos c2]
      have e : (rN1 t).1 - i - 1 = (rN1 t).1 - (i + 1) := by omega
      rw [e]
      exact gl_r1 t f (i + 1) (u ++ [(r5readTag_m T).1]) (r5readTag_m T).2
    · rw [if_neg (fun q => c (h.1 q)), if_neg (fun q => c ⟨by have := q.1; omega, q.2⟩)]; exact ⟨i, rfl⟩
theorem gl_r2 (t : RdM) : ∀ (f : Nat) (i : Int) (u : List TagM) (T : RdM), ∃ j, r14read_L2 t f i u T.s T.a T.f.atF T.f.e = .inr (j, (gl f ((rN2 t).1 - i) u T).1, (gl f ((rN2 t).1 - i) u T).2.s, (gl f ((rN2 t).1 - i) u T).2.a, (gl f ((rN2 t).1 - i) u T).2.f.atF, (gl f ((rN2 t).1 - i) u T).2.f.e)
  | 0, i, u, T => ⟨i, rfl⟩
  | f + 1, i, u, T => by
    have h := r14read_c2_iff t i u T.s T.a T.f.atF T.f.e
    rw [r14read_L2, gl]
    by_cases c : i < (rN2 t).1 ∧ T.f.e = 0
    · have c2 : 0 < (rN2 t).1 - i ∧ T.f.e = 0 := ⟨by have := c.1; omega, c.2⟩
      rw [if_pos (h.2 c), if_pos c2]
      have e : (rN2 t).1 - i - 1 = (rN2 t).1 - (i + 1) := by omega
      rw [e]
      exact gl_r2 t f (i + 1) (u ++ [(r5readTag_m T).1]) (r5readTag_m T).2
    · rw [if_neg (fun q => c (h.1 q)), if_neg (fun q => c ⟨by have := q.1; omega, q.2⟩)]; exact ⟨i, rfl⟩
def eff0 : EffectM := ⟨0, [], 0, ⟨⟨0, 0⟩, 0⟩, ⟨0, 0⟩, []⟩
def fin_ (ck : EffectM → Int) (e : EffectM) (T : RdM) : EffectM × RdM :=
  if T.f.e = 0 then
    if (rfail_m T (ck e)).f.e = 0 then (e, rfail_m T (ck e)) else (eff0, rfail_m T (ck e))
  else (eff0, T)
/-- What both read. -/
def gread (ck : EffectM → Int) (t : RdM) : EffectM × RdM :=
  if r14timed_m (rA t).1 = true then
    if r14takes_m (rA t).1 = true then fin_ ck ⟨(rA t).1, (rB t).1, (rC t).1, (rD t).1, (rS t).1, (gl ((rN1 t).1.toNat + 1) (rN1 t).1 [] (rN1 t).2).1⟩ (gl ((rN1 t).1.toNat + 1) (rN1 t).1 [] (rN1 t).2).2
    else fin_ ck ⟨(rA t).1, (rB t).1, (rC t).1, (rD t).1, (rS t).1, []⟩ (rS t).2
  else
    if r14takes_m (rA t).1 = true then fin_ ck ⟨(rA t).1, (rB t).1, (rC t).1, (rD t).1, ⟨0, 0⟩, (gl ((rN2 t).1.toNat + 1) (rN2 t).1 [] (rN2 t).2).1⟩ (gl ((rN2 t).1.toNat + 1) (rN2 t).1 [] (rN2 t).2).2
    else fin_ ck ⟨(rA t).1, (rB t).1, (rC t).1, (rD t).1, ⟨0, 0⟩, []⟩ (rD t).2
theorem r14read_g (t : RdM) : r14read_m t = gread r14checkE_m t := by
  obtain ⟨j1, h1⟩ := gl_r1 t (((rN1 t).1 - 0).toNat + 1) 0 [] (rN1 t).2
  obtain ⟨j2, h2⟩ := gl_r2 t (((rN2 t).1 - 0).toNat + 1) 0 [] (rN2 t).2
  unfold r14read_m gread
  rw [h1, h2, Int.sub_zero, Int.sub_zero]
  rfl
theorem oread_g {t : RdM} (h : Rok t) : oread_m t = gread ocheckE_m t := by
  have hB : Rok (rB t).2 := rtext_rok (m := 12) (rint_rok (m := 6) h)
  obtain ⟨j1, h1⟩ := gl_o1 t ((rN1 t).1.toNat + 1) (rN1 t).1 [] (rN1 t).2
  obtain ⟨j2, h2⟩ := gl_o2 t ((rN2 t).1.toNat + 1) (rN2 t).1 [] (rN2 t).2
  unfold oread_m gread
  rw [formAt, formTags, rsigned_eq hB, ireadTag_eq, lread_eq, h1, h2]
  rfl
theorem fin_eq {e : EffectM} {T : RdM} (h : EffWf e) : fin_ ocheckE_m e T = fin_ r14checkE_m e T := by unfold fin_; rw [checkE_eq h]
/-- An effect read: the program's is the document's. -/
theorem read_eq {t : RdM} (h : Rok t) : oread_m t = r14read_m t := by
  rw [oread_g h, r14read_g]
  unfold gread
  rw [fin_eq ⟨tag_ok _, gl_ok _ _ _ _ (by simp), time_ok _⟩, fin_eq ⟨tag_ok _, by simp, time_ok _⟩, fin_eq ⟨tag_ok _, gl_ok _ _ _ _ (by simp), Int.le_refl _⟩, fin_eq ⟨tag_ok _, by simp, Int.le_refl _⟩]
theorem fin_rok {ck : EffectM → Int} {e : EffectM} {T : RdM} (h : Rok T) : Rok (fin_ ck e T).2 := by
  unfold fin_
  repeat' split
  all_goals first | exact rfail_rok h | exact h
theorem gl_rok : ∀ (f : Nat) (k : Int) (u : List TagM) (T : RdM), Rok T → Rok (gl f k u T).2
  | 0, _, _, _, h => h
  | f + 1, k, u, T, h => by
    rw [gl]
    split
    · exact gl_rok f _ _ _ (r5readTag_rok h)
    · exact h
theorem r14read_rok {t : RdM} (h : Rok t) : Rok (r14read_m t).2 := by
  have hD : Rok (rD t).2 := r5readTag_rok (rsigned_rok (rtext_rok (m := 12) (rint_rok (m := 6) h)))
  have hS : Rok (rS t).2 := r9read_rok hD
  rw [r14read_g]
  unfold gread
  repeat' split
  · exact fin_rok (gl_rok _ _ _ _ (rint_rok (m := 4096) hS))
  · exact fin_rok hS
  · exact fin_rok (gl_rok _ _ _ _ (rint_rok (m := 4096) hD))
  · exact fin_rok hD


theorem write_L1_len (e : EffectM) : ∀ (fuel : Nat) (a : List UInt8) (i : Int), ∃ b j, r14write_L1 e fuel a i = .inr (b, j) ∧ b.length ≤ a.length + 27 * fuel
  | 0, a, i => ⟨a, i, rfl, by omega⟩
  | fuel + 1, a, i => by
    rw [r14write_L1]
    split
    · obtain ⟨b, j, h, hl⟩ := write_L1_len e fuel (a ++ r5writeTag_m (ix e.tags i)) (i + 1)
      have := r5writeTag_len (ix e.tags i)
      rw [List.length_append] at hl
      exact ⟨b, j, h, by omega⟩
    · exact ⟨a, i, rfl, by omega⟩
theorem write_L2_len (e : EffectM) : ∀ (fuel : Nat) (a : List UInt8) (i : Int), ∃ b j, r14write_L2 e fuel a i = .inr (b, j) ∧ b.length ≤ a.length + 27 * fuel
  | 0, a, i => ⟨a, i, rfl, by omega⟩
  | fuel + 1, a, i => by
    rw [r14write_L2]
    split
    · obtain ⟨b, j, h, hl⟩ := write_L2_len e fuel (a ++ r5writeTag_m (ix e.tags i)) (i + 1)
      have := r5writeTag_len (ix e.tags i)
      rw [List.length_append] at hl
      exact ⟨b, j, h, by omega⟩
    · exact ⟨a, i, rfl, by omega⟩
theorem write_len {e : EffectM} (h1 : e.tags.length ≤ 100) (h2 : e.name.length ≤ 1000) : (r14write_m e).1.length ≤ 10000 := by
  have l1 := r2num_len (e.act % 18446744073709551616)
  have l2 := r2text_len e.name
  have l3 := r2signed_len e.val
  have l4 := r5writeTag_len e.tag
  have l5 := r9write_len e.atF
  have l6 := r2num_len ((e.tags.length : Int) % 18446744073709551616)
  unfold r14write_m
  split
  · split
    · split
      · obtain ⟨b, j, h, hl⟩ := write_L1_len e (((e.tags.length : Int) - (0 : Int)).toNat + 1) ((((((r2num_m (e.act % 18446744073709551616)) ++ (r2text_m e.name)) ++ (r2signed_m e.val)) ++ (r5writeTag_m e.tag)) ++ (r9write_m e.atF)) ++ (r2num_m ((e.tags.length : Int) % 18446744073709551616))) 0
        rw [h]
        simp only [List.length_append] at hl ⊢
        omega
      · simp only [List.length_append]; omega
    · split
      · obtain ⟨b, j, h, hl⟩ := write_L2_len e (((e.tags.length : Int) - (0 : Int)).toNat + 1) (((((r2num_m (e.act % 18446744073709551616)) ++ (r2text_m e.name)) ++ (r2signed_m e.val)) ++ (r5writeTag_m e.tag)) ++ (r2num_m ((e.tags.length : Int) % 18446744073709551616))) 0
        rw [h]
        simp only [List.length_append] at hl ⊢
        omega
      · simp only [List.length_append]; omega
  · simp
theorem sameTags_refl (a : List TagM) : sameTags_m a a = true := by
  unfold sameTags_m
  rw [if_pos rfl]
  obtain ⟨q, h⟩ := loop_all0 a (fun _ => true) false (sameTags_L1 a a) (fun fuel i _ => by rw [sameTags_L1]; simp)
  rw [h]
  simp
theorem sameEffect_refl (a : EffectM) : sameEffect_m a a = true := by unfold sameEffect_m; simp [sameTags_refl]
theorem fromEff_eq (e : EffectM) : fromEff_m e = e := rfl

end Go.Proofs.YtdgllcmlfblelaaGreatDoor

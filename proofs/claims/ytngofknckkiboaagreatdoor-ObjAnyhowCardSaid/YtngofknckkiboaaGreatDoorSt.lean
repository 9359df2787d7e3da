/- What a walk knows of memory: own blocks (H), and facts that last as long as nobody but the owners of H and X writes (K). -/
import Derived.Test.YtngofknckkiboaaGreatDoorSh
import Derived.Test.YtngofknckkiboaaGreatDoorSg
set_option linter.unusedVariables false
set_option linter.unusedSimpArgs false
namespace Go.Proofs.YtngofknckkiboaaGreatDoor
open Go.RowKit

/-- The cells cs stand at A, in blocks outside X. -/
def Rdx (X : List Nat) (w : World) (A : Option Addr) (cs : List Value) : Prop :=
  ∀ (j : Nat) v, cs[j]? = some v → ∃ g b, A = some ⟨g, b, none⟩ ∧ g ∉ X ∧ w.cell? ⟨g, b + j, none⟩ = some v

theorem cell_blk {w : World} {a : Addr} {v : Value} (h : w.cell? a = some v) : a.block < w.heap.size := by
  unfold World.cell? at h
  split at h
  · rename_i c t x hb
    exact heap_lt hb
  · cases h
theorem Rdx.stable {X Y : List Nat} {w w' : World} {A : Option Addr} {cs : List Value} (h : Rdx X w A cs) (hf : Fr X w w') (hY : ∀ y ∈ Y, y ∈ X ∨ w.heap.size ≤ y) : Rdx Y w' A cs := fun j v hj => by
  obtain ⟨g, b, rfl, hX, hc⟩ := h j v hj
  have hlt := cell_blk hc
  refine ⟨g, b, rfl, fun hy => ?_, ?_⟩
  · rcases hY g hy with h1 | h1
    · exact hX h1
    · simp only at hlt; omega
  · rw [hf.cell hlt hX]; exact hc
theorem Rdx.sub {X Y : List Nat} {w : World} {A : Option Addr} {cs : List Value} (h : Rdx X w A cs) (hY : ∀ y ∈ Y, y ∈ X) : Rdx Y w A cs := fun j v hj => by
  obtain ⟨g, b, e, hX, hc⟩ := h j v hj
  exact ⟨g, b, e, fun hy => hX (hY g hy), hc⟩
theorem Rdx.nil {X : List Nat} {w : World} {A : Option Addr} : Rdx X w A [] := fun j v hj => by simp at hj
theorem Rdx.take {X : List Nat} {w : World} {A : Option Addr} {cs : List Value} (h : Rdx X w A cs) (k : Nat) : Rdx X w A (cs.take k) := fun j v hj => by
  rw [List.getElem?_take] at hj
  split at hj
  · exact h j v hj
  · cases hj
theorem Rdx.addr {X : List Nat} {w : World} {A : Option Addr} {cs : List Value} (h : Rdx X w A cs) (hl : 0 < cs.length) : ∃ g b, A = some ⟨g, b, none⟩ := by
  obtain ⟨g, b, e, _⟩ := h 0 cs[0] (List.getElem?_eq_getElem hl)
  exact ⟨g, b, e⟩
theorem Rdx.range {X : List Nat} {w : World} {g b : Nat} {cs : List Value} (h : Rdx X w (some ⟨g, b, none⟩) cs) (k m : Nat) : w.rangeAt g (b + k) ((cs.drop k).take m) := fun j v hj => by
  rw [List.getElem?_take] at hj
  split at hj
  · rw [List.getElem?_drop] at hj
    obtain ⟨g', b', e, _, hc⟩ := h _ v hj
    injection e with e
    injection e with e1 e2
    subst e1; subst e2
    rw [Nat.add_assoc]; exact hc
  · cases hj
theorem Rdx.src {X : List Nat} {w : World} {A : Option Addr} {cs : List Value} (h : Rdx X w A cs) : ∀ ad, A = some ad → ∀ j u, cs[j]? = some u → w.cell? (ad.add j) = some u := fun ad hA j u hj => by
  obtain ⟨g, b, e, _, hc⟩ := h j u hj
  rw [hA] at e
  injection e with e
  subst e
  rw [Addr.add_mid]; exact hc
/-- Behind the first k cells. -/
theorem Rdx.drop {X : List Nat} {w : World} {g b : Nat} {cs : List Value} (h : Rdx X w (some ⟨g, b, none⟩) cs) (k : Nat) : Rdx X w (some ⟨g, b + k, none⟩) (cs.drop k) := fun j v hj => by
  rw [List.getElem?_drop] at hj
  obtain ⟨g', b', e, hX, hc⟩ := h _ v hj
  injection e with e
  injection e with e1 e2
  subst e1; subst e2
  exact ⟨g, b + k, rfl, hX, by rw [Nat.add_assoc]; exact hc⟩

/-- A fact that lasts. -/
structure Kf where
  p : List Nat → World → Prop
  st : ∀ {X Y : List Nat} {w w' : World}, p X w → Fr X w w' → (∀ y ∈ Y, y ∈ X ∨ w.heap.size ≤ y) → p Y w'
/-- A slice of l elements whose cells are cs. -/
structure Sld (X : List Nat) (w : World) (A : Option Addr) (l c m : Nat) (cs : List Value) : Prop where
  rd : Rdx X w A cs
  len : cs.length = l * m
  lc : l ≤ c
  cm : c ≤ maxLen
theorem Sld.stable {X Y : List Nat} {w w' : World} {A : Option Addr} {l c m : Nat} {cs : List Value} (h : Sld X w A l c m cs) (hf : Fr X w w') (hY : ∀ y ∈ Y, y ∈ X ∨ w.heap.size ≤ y) : Sld Y w' A l c m cs := ⟨h.rd.stable hf hY, h.len, h.lc, h.cm⟩
theorem Sld.le {X : List Nat} {w : World} {A : Option Addr} {l c m : Nat} {cs : List Value} (h : Sld X w A l c m cs) : l ≤ 9223372036854775807 := by have h1 := h.lc; have h2 := h.cm; unfold maxLen at h2; omega
theorem Ow.le {A : Option Addr} {l c m : Nat} {xs sp : List Value} (h : Ow A l c m xs sp) : l ≤ 9223372036854775807 := by
  rcases h.2 with ⟨_, h0, _⟩ | ⟨g, _, _, h1, h2⟩
  · omega
  · unfold maxLen at h2; omega
def kS (A : Option Addr) (l c m : Nat) (cs : List Value) : Kf := ⟨fun X w => Sld X w A l c m cs, fun h hf hY => h.stable hf hY⟩

structure St (X : List Nat) (w : World) (H : Heap) (K : List Kf) : Prop where
  hp : Hp w H
  kr : ∀ k ∈ K, k.p (keys H ++ X) w
  lo : ∀ x ∈ X, x < w.heap.size
  dj : ∀ x ∈ X, x ∉ keys H
def Lo (X : List Nat) (w : World) : Prop := ∀ x ∈ X, x < w.heap.size

section
variable {X : List Nat} {w w' : World} {H H' : Heap} {K : List Kf} {g i : Nat} {o o' : Obj}
theorem St.nil (hX : Lo X w) : St X w [] [] := ⟨Hp.nil w, by simp, hX, by simp [keys]⟩
theorem St.drew (h : St X w H K) : St X w.drew H K := ⟨h.hp.drew, fun k hk => k.st (h.kr k hk) ((Fr.refl _ _).step0 (Fr.drew w)) (fun _ hy => .inl hy), h.lo, h.dj⟩
theorem St.Lo (h : St X w H K) : Lo (keys H ++ X) w := fun x hx => by
  rcases List.mem_append.1 hx with hx | hx
  · exact h.hp.keys_lt x hx
  · exact h.lo x hx
theorem Fr.weak0 {X : List Nat} {w w' : World} (h : Fr [] w w') : Fr X w w' := h.mono (by simp)
theorem St.keep0 (h : St X w H K) (hf : Fr [] w w') : St X w' H K := ⟨h.hp.keep0 hf, fun k hk => k.st (h.kr k hk) hf.weak0 (fun _ hy => .inl hy), fun x hx => Nat.lt_of_lt_of_le (h.lo x hx) hf.size, h.dj⟩
theorem keys_append (a b : Heap) : keys (a ++ b) = keys a ++ keys b := by unfold keys; rw [List.filterMap_append]
/-- A step that changes own blocks only. -/
theorem St.step {Y : List Nat} (h : St X w H K) (hp : Hp w' H') (hf : Fr Y w w') (hY : ∀ y ∈ Y, y ∈ keys H) (hk : ∀ k ∈ keys H', k ∈ keys H ∨ w.heap.size ≤ k) : St X w' H' K :=
  ⟨hp, fun k hk' => k.st (h.kr k hk') (hf.mono fun y hy => List.mem_append_left _ (hY y hy)) (fun y hy => by
    rcases List.mem_append.1 hy with hy | hy
    · rcases hk y hy with h1 | h1
      · exact .inl (List.mem_append_left _ h1)
      · exact .inr h1
    · exact .inl (List.mem_append_right _ hy)), fun x hx => Nat.lt_of_lt_of_le (h.lo x hx) hf.size, fun x hx hk' => by
    rcases hk x hk' with h1 | h1
    · exact h.dj x hx h1
    · have := h.lo x hx; omega⟩
theorem St.push {o : Obj} (h : St X w H K) (hp : Hp w' (H ++ [(some g, o)])) (hf : Fr [] w w') (hg : w.heap.size ≤ g) : St X w' (H ++ [(some g, o)]) K :=
  h.step hp hf (by simp) fun k hk => by
    rw [keys_append] at hk
    rcases List.mem_append.1 hk with hk | hk
    · exact .inl hk
    · simp [keys] at hk; subst hk; exact .inr hg
theorem keys_set {k' k : Option Nat} (hi : H[i]? = some (k, o)) {x : Nat} (hx : x ∈ keys (H.set i (k', o'))) : x ∈ keys H ∨ k' = some x := by
  obtain ⟨j, b, hj⟩ := mem_keys.1 hx
  rw [List.getElem?_set] at hj
  split at hj
  · split at hj
    · simp at hj; exact .inr hj.1
    · cases hj
  · exact .inl (mem_keys.2 ⟨j, b, hj⟩)
theorem St.set (h : St X w H K) (hi : H[i]? = some (some g, o)) (hp : Hp w' (H.set i (some g, o'))) (hf : Fr [g] w w') : St X w' (H.set i (some g, o')) K :=
  h.step hp hf (fun y hy => by simp at hy; subst hy; exact mem_keys.2 ⟨i, o, hi⟩) fun k hk => by
    rcases keys_set hi hk with h1 | h1
    · exact .inl h1
    · injection h1 with h1; subst h1; exact .inl (mem_keys.2 ⟨i, o, hi⟩)
theorem St.setAny {k k' : Option Nat} (h : St X w H K) (hi : H[i]? = some (k, o)) (hp : Hp w' (H.set i (k', o'))) (hf : Fr k.toList w w') (hk' : ∀ g', k' = some g' → k = some g' ∨ w.heap.size ≤ g') : St X w' (H.set i (k', o')) K :=
  h.step hp hf (fun y hy => by cases k with
    | none => simp at hy
    | some g => simp at hy; subst hy; exact mem_keys.2 ⟨i, o, hi⟩) fun x hx => by
    rcases keys_set hi hx with h1 | h1
    · exact .inl h1
    · rcases hk' x h1 with h2 | h2
      · subst h2; exact .inl (mem_keys.2 ⟨i, o, hi⟩)
      · exact .inr h2
theorem St.addK (h : St X w H K) (k : Kf) (hk : k.p (keys H ++ X) w) : St X w H (K ++ [k]) := ⟨h.hp, fun j hj => by
  rcases List.mem_append.1 hj with hj | hj
  · exact h.kr j hj
  · simp at hj; subst hj; exact hk, h.lo, h.dj⟩
theorem St.addN (h : St X w H K) (o : Obj) : St X w (H ++ [(none, o)]) K := ⟨h.hp.addNone o, fun k hk => by
  have : keys (H ++ [(none, o)]) = keys H := by rw [keys_append]; simp [keys]
  rw [this]; exact h.kr k hk, h.lo, fun x hx => by rw [keys_append]; simpa [keys] using h.dj x hx⟩
theorem St.k {A : Option Addr} {l c m : Nat} {cs : List Value} (h : St X w H K) (hi : K[i]? = some (kS A l c m cs)) : Sld (keys H ++ X) w A l c m cs := h.kr _ (List.mem_of_getElem? hi)
def hOf {X : List Nat} {w : World} {H : Heap} {K : List Kf} (_ : St X w H K) : Heap := H
def kOf {X : List Nat} {w : World} {H : Heap} {K : List Kf} (_ : St X w H K) : List Kf := K
theorem keys_pick {idx : List Nat} {x : Nat} (h : x ∈ keys (pickL H idx)) : x ∈ keys H := by
  induction idx with
  | nil => simp [pickL, keys] at h
  | cons a r ih =>
    unfold pickL at h
    cases ha : H[a]? with
    | none => rw [ha] at h; exact ih h
    | some e =>
      rw [ha] at h
      obtain ⟨k, ob⟩ := e
      unfold keys at h
      rw [List.filterMap_cons] at h
      cases k with
      | none => exact ih h
      | some g =>
        simp only [List.mem_cons] at h
        rcases h with rfl | h
        · exact mem_keys.2 ⟨a, ob, ha⟩
        · exact ih h
theorem Kf.sub (k : Kf) {X Y : List Nat} {w : World} (h : k.p X w) (hY : ∀ y ∈ Y, y ∈ X) : k.p Y w := k.st h (Fr.refl _ _) (fun y hy => .inl (hY y hy))
theorem St.picks (h : St X w H K) (idx : List Nat) (hn : idx.Nodup) : St X w (pickL H idx) K := ⟨h.hp.picks idx hn, fun k hk => k.sub (h.kr k hk) (fun y hy => by
  rcases List.mem_append.1 hy with hy | hy
  · exact List.mem_append_left _ (keys_pick hy)
  · exact List.mem_append_right _ hy), h.lo, fun x hx hk => h.dj x hx (keys_pick hk)⟩
/-- For a caller's frame: what is known holds without our own blocks. -/
theorem St.out {k : Kf} (h : St X w H K) (hi : K[i]? = some k) : k.p X w := k.sub (h.kr k (List.mem_of_getElem? hi)) (fun y hy => List.mem_append_right _ hy)
/-- An own row is never written again. -/
theorem St.freeze {l c m ty : Nat} {A : Option Addr} {xs sp : List Value} (h : St X w H K) (idx : List Nat) (hn : (idx ++ [i]).Nodup) (hi : H[i]? = some (blkOf A, Cl (xs ++ sp) ty)) (ho : Ow A l c m xs sp) (hm : 0 < m) : St X w (pickL H idx) (K ++ [kS A l c m xs]) := by
  refine (h.picks idx (List.nodup_append.1 hn).1).addK _ ?_
  show Sld _ _ _ _ _ _ _
  have hlc : l ≤ c ∧ c ≤ maxLen := by
    rcases ho.2 with ⟨_, rfl, rfl, _⟩ | ⟨g, _, _, h1, h2⟩
    · exact ⟨Nat.le_refl _, Nat.zero_le _⟩
    · exact ⟨h1, h2⟩
  refine ⟨fun j v hj => ?_, ho.1, hlc.1, hlc.2⟩
  have hjl : j < xs.length := (List.getElem?_eq_some_iff.1 hj).1
  obtain ⟨g, rfl⟩ := ho.some_ (by rw [ho.1] at hjl; exact Nat.pos_of_ne_zero (by rintro rfl; omega))
  refine ⟨g, 0, rfl, fun hg => ?_, ?_⟩
  · rcases List.mem_append.1 hg with hg | hg
    · obtain ⟨a, ob, ha⟩ := mem_keys.1 hg
      have key : ∀ (idx : List Nat) (a : Nat) e, (pickL H idx)[a]? = some e → ∃ q : Nat, q ∈ idx ∧ H[q]? = some e := by
        intro idx
        induction idx with
        | nil => intro j e he; simp [pickL] at he
        | cons x r ih =>
          intro j e he
          unfold pickL at he
          cases hx : H[x]? with
          | none => rw [hx] at he; obtain ⟨q, h1, h2⟩ := ih j e he; exact ⟨q, by simp [h1], h2⟩
          | some y =>
            rw [hx] at he
            cases j with
            | zero => simp at he; subst he; exact ⟨x, by simp, hx⟩
            | succ j => obtain ⟨q, h1, h2⟩ := ih j e (by simpa using he); exact ⟨q, by simp [h1], h2⟩
      obtain ⟨q, hq, hqe⟩ := key idx a _ ha
      have := h.hp.inj q i g ob _ hqe hi
      subst this
      have := (List.nodup_append.1 hn).2.2 q hq q (by simp)
      exact this rfl
    · exact h.dj g hg (mem_keys.2 ⟨i, _, hi⟩)
  · rw [Nat.zero_add]; exact cell_of h.hp hi (by rw [List.getElem?_append_left hjl]; exact hj)
/-- A part of what is known, for a call. -/
def pickK (K : List Kf) : List Nat → List Kf
  | [] => []
  | i :: r => match K[i]? with
    | some e => e :: pickK K r
    | none => pickK K r
theorem mem_pickK {idx : List Nat} {k : Kf} (h : k ∈ pickK K idx) : k ∈ K := by
  induction idx with
  | nil => simp [pickK] at h
  | cons a r ih =>
    unfold pickK at h
    cases ha : K[a]? with
    | none => rw [ha] at h; exact ih h
    | some e =>
      rw [ha] at h
      simp only [List.mem_cons] at h
      rcases h with rfl | h
      · exact List.mem_of_getElem? ha
      · exact ih h
theorem St.sub (h : St X w H K) (others idx kidx : List Nat) (hn : (others ++ idx).Nodup) : St (keys (pickL H others) ++ X) w (pickL H idx) (pickK K kidx) := by
  have h1 := h.hp.picks (others ++ idx) hn
  rw [pickL_append] at h1
  refine ⟨h.hp.picks idx (List.nodup_append.1 hn).2.1, fun k hk => k.sub (h.kr k (mem_pickK hk)) (fun y hy => ?_), fun x hx => ?_, fun x hx hk => ?_⟩
  · rcases List.mem_append.1 hy with hy | hy
    · exact List.mem_append_left _ (keys_pick hy)
    · rcases List.mem_append.1 hy with hy | hy
      · exact List.mem_append_left _ (keys_pick hy)
      · exact List.mem_append_right _ hy
  · rcases List.mem_append.1 hx with hx | hx
    · exact h.hp.keys_lt x (keys_pick hx)
    · exact h.lo x hx
  · rcases List.mem_append.1 hx with hx | hx
    · obtain ⟨a, o1, ha⟩ := mem_keys.1 hx
      obtain ⟨b, o2, hb⟩ := mem_keys.1 hk
      have la : a < (pickL H others).length := (List.getElem?_eq_some_iff.1 ha).1
      have := h1.inj a ((pickL H others).length + b) x o1 o2 (by rw [List.getElem?_append_left la]; exact ha) (by rw [List.getElem?_append_right (by omega)]; simpa using hb)
      omega
    · exact h.dj x hx (keys_pick hk)
/-- Behind a call that changed a part of our own blocks. -/
theorem St.callM {H1 Hx : Heap} (h : St X w H K) (others idx : List Nat) (hn : (others ++ idx).Nodup) (hx : pickL H idx = Hx) (m : Mod w w' Hx H1) : St X w' (pickL H others ++ H1) K := by
  refine h.step (h.hp.call others idx hn hx m) m.fr (fun y hy => by subst hx; exact keys_pick hy) fun k hk => ?_
  rw [keys_append] at hk
  rcases List.mem_append.1 hk with hk | hk
  · exact .inl (keys_pick hk)
  · rcases m.nw k hk with h1 | h1
    · subst hx; exact .inl (keys_pick h1)
    · exact .inr h1
theorem St.callS {H1 Hx : Heap} {K1 : List Kf} (h : St X w H K) (others idx : List Nat) (hn : (others ++ idx).Nodup) (hx : pickL H idx = Hx) (hs : St (keys (pickL H others) ++ X) w' H1 K1) (hf : Fr (keys Hx) w w') (hk : ∀ k ∈ keys H1, k ∈ keys Hx ∨ w.heap.size ≤ k) : St X w' (pickL H others ++ H1) (K ++ K1) := by
  have h1 := h.callM others idx hn hx ⟨hf, hs.hp, hk⟩
  refine ⟨h1.hp, fun k hk' => ?_, h1.lo, h1.dj⟩
  rcases List.mem_append.1 hk' with hk' | hk'
  · exact h1.kr k hk'
  · refine k.sub (hs.kr k hk') fun y hy => ?_
    rw [keys_append] at hy
    simp only [List.mem_append] at hy ⊢
    rcases hy with (hy | hy) | hy
    · exact .inr (.inl hy)
    · exact .inl hy
    · exact .inr (.inr hy)
end

theorem kc_n {P : Nat → Prop} : ∀ k ∈ keys [], P k := fun k hk => by simp [keys] at hk
theorem kc_s {P : Nat → Prop} {g : Nat} {o : Obj} {H : Heap} (h : P g) (hr : ∀ k ∈ keys H, P k) : ∀ k ∈ keys ((some g, o) :: H), P k := fun k hk => by
  simp only [keys, List.filterMap_cons, List.mem_cons] at hk
  rcases hk with rfl | hk
  · exact h
  · exact hr k hk
theorem kc_b {P : Nat → Prop} {k0 : Option Nat} {o : Obj} {H : Heap} (h : ∀ g, k0 = some g → P g) (hr : ∀ k ∈ keys H, P k) : ∀ k ∈ keys ((k0, o) :: H), P k := fun k hk => by
  cases k0 with
  | none => exact hr k (by simpa [keys] using hk)
  | some g => exact kc_s (h g rfl) hr k hk
theorem kc_app {P : Nat → Prop} {a b : Heap} (h : ∀ k ∈ keys a, P k) (hr : ∀ k ∈ keys b, P k) : ∀ k ∈ keys (a ++ b), P k := fun k hk => by
  rw [keys_append] at hk
  rcases List.mem_append.1 hk with hk | hk
  · exact h k hk
  · exact hr k hk
theorem kin0 (g : Nat) {o : Obj} (H : Heap) : g ∈ keys ((some g, o) :: H) := by simp [keys]
/-- An own row, for a look. -/
theorem Sld.own {w : World} {H : Heap} {A : Option Addr} {l c m i e : Nat} {xs sp : List Value} (h : Hp w H) (hi : H[i]? = some (blkOf A, Cl (xs ++ sp) e)) (ho : Ow A l c m xs sp) (hm : 0 < m) : Sld [] w A l c m xs := by
  have hlc : l ≤ c ∧ c ≤ maxLen := by
    rcases ho.2 with ⟨_, rfl, rfl, _⟩ | ⟨g, _, _, h1, h2⟩
    · exact ⟨Nat.le_refl _, Nat.zero_le _⟩
    · exact ⟨h1, h2⟩
  refine ⟨fun j v hj => ?_, ho.1, hlc.1, hlc.2⟩
  have hjl : j < xs.length := (List.getElem?_eq_some_iff.1 hj).1
  obtain ⟨g, rfl⟩ := ho.some_ (by rw [ho.1] at hjl; exact Nat.pos_of_ne_zero (by rintro rfl; omega))
  exact ⟨g, 0, rfl, by simp, by rw [Nat.zero_add]; exact cell_of h hi (by rw [List.getElem?_append_left hjl]; exact hj)⟩
/-! ### rows of elements -/
def ix {α : Type} [Inhabited α] (l : List α) (q : Int) : α := (l[q.toNat]?).getD default
theorem fl_len {α : Type} {enc : α → List Value} {m : Nat} (hm : ∀ x, (enc x).length = m) (l : List α) : (l.flatMap enc).length = l.length * m := by
  induction l with
  | nil => simp
  | cons a l ih => rw [List.flatMap_cons, List.length_append, ih, hm, List.length_cons, Nat.add_mul, Nat.one_mul, Nat.add_comm]
theorem fl_drop {α : Type} {enc : α → List Value} {m : Nat} (hm : ∀ x, (enc x).length = m) (l : List α) (k : Nat) : (l.flatMap enc).drop (k * m) = (l.drop k).flatMap enc := by
  induction l generalizing k with
  | nil => simp
  | cons a l ih =>
    cases k with
    | zero => simp
    | succ k =>
      rw [List.flatMap_cons, List.drop_succ_cons, ← ih k, show (k + 1) * m = (enc a).length + k * m by rw [hm, Nat.add_mul, Nat.one_mul, Nat.add_comm], List.drop_length_add_append]
theorem fl_take {α : Type} {enc : α → List Value} {m : Nat} (hm : ∀ x, (enc x).length = m) (l : List α) (k : Nat) : (l.flatMap enc).take (k * m) = (l.take k).flatMap enc := by
  induction l generalizing k with
  | nil => simp
  | cons a l ih =>
    cases k with
    | zero => simp
    | succ k =>
      rw [List.flatMap_cons, List.take_succ_cons, List.flatMap_cons, ← ih k, show (k + 1) * m = (enc a).length + k * m by rw [hm, Nat.add_mul, Nat.one_mul, Nat.add_comm], List.take_length_add_append]
theorem fl_elem {α : Type} [Inhabited α] {enc : α → List Value} {m : Nat} (hm : ∀ x, (enc x).length = m) (l : List α) {q : Int} (h1 : q.toNat < l.length) : ((l.flatMap enc).drop (q.toNat * m)).take m = enc (ix l q) := by
  rw [fl_drop hm, List.drop_eq_getElem_cons h1, List.flatMap_cons, List.take_left' (hm _)]
  unfold ix
  rw [List.getElem?_eq_getElem h1]; rfl
theorem ix_mem {α : Type} [Inhabited α] {l : List α} {q : Int} (h0 : 0 ≤ q) (h1 : q < l.length) : ix l q ∈ l := by
  have h : q.toNat < l.length := by omega
  unfold ix; rw [List.getElem?_eq_getElem h]; exact List.getElem_mem h
theorem Sld.elem {α : Type} [Inhabited α] {enc : α → List Value} {m : Nat} {X : List Nat} {w : World} {g b l' c : Nat} {l : List α} (h : Sld X w (some ⟨g, b, none⟩) l' c m (l.flatMap enc)) (hm : ∀ x, (enc x).length = m) {q : Int} (h0 : 0 ≤ q) (h1 : q < l.length) : w.rangeAt g (b + q.toNat * m) (enc (ix l q)) := by
  rw [← fl_elem hm l (by omega)]
  exact h.rd.range _ _
theorem Sld.addr {α : Type} {enc : α → List Value} {m : Nat} {X : List Nat} {w : World} {A : Option Addr} {l' c : Nat} {l : List α} (h : Sld X w A l' c m (l.flatMap enc)) (hm : ∀ x, (enc x).length = m) (hm0 : 0 < m) {q : Int} (h0 : 0 ≤ q) (h1 : q < l.length) : ∃ g b, A = some ⟨g, b, none⟩ :=
  h.rd.addr (by rw [fl_len hm]; exact Nat.mul_pos (by omega) hm0)
section
variable [Dfs] {P : Program} {n : Nat} {env : Env} {S : World → Prop} {o : Oper}
/-- An element of a row, whole. -/
theorem y_ldk {α : Type} [Inhabited α] {enc : α → List Value} {X : List Nat} {t g b m l' c : Nat} {x : Operand} {l : List α} {q : Int} (ho : o.op = .load t x) (hx : env.ev x = some (.pointer (some ⟨g, b + q.toNat * m, none⟩))) (ht : aggSize P t = some m)
    (hS : ∀ w, S w → Sld X w (some ⟨g, b, none⟩) l' c m (l.flatMap enc)) (hm : ∀ x, (enc x).length = m) (h0 : 0 ≤ q) (h1 : q < l.length) : Yld P n env S o (.agg (enc (ix l q)).toArray) :=
  y_loadr ho hx ht (hm _) fun w hw => (hS w hw).elem hm h0 h1
/-- A cell of an element. -/
theorem y_ldk1 {α : Type} [Inhabited α] {enc : α → List Value} {X : List Nat} {t g b m l' c : Nat} (off : Nat) {x : Operand} {l : List α} {q : Int} {v : Value} (ho : o.op = .load t x) (hx : env.ev x = some (.pointer (some ⟨g, b + q.toNat * m + off, none⟩))) (ht : plainB P t = true)
    (hS : ∀ w, S w → Sld X w (some ⟨g, b, none⟩) l' c m (l.flatMap enc)) (hm : ∀ x, (enc x).length = m) (h0 : 0 ≤ q) (h1 : q < l.length) (hv : (enc (ix l q))[off]? = some v) : Yld P n env S o v :=
  y_loadc ho hx ht fun w hw => (hS w hw).elem hm h0 h1 off v hv
/-- Some cells of an element. -/
theorem y_ldkm {α : Type} [Inhabited α] {enc : α → List Value} {X : List Nat} {t g b m l' c k : Nat} (off : Nat) {x : Operand} {l : List α} {q : Int} {ds : List Value} (ho : o.op = .load t x) (hx : env.ev x = some (.pointer (some ⟨g, b + q.toNat * m + off, none⟩))) (ht : aggSize P t = some k)
    (hS : ∀ w, S w → Sld X w (some ⟨g, b, none⟩) l' c m (l.flatMap enc)) (hm : ∀ x, (enc x).length = m) (h0 : 0 ≤ q) (h1 : q < l.length) (hv : ((enc (ix l q)).drop off).take k = ds) (hl : ds.length = k) : Yld P n env S o (.agg ds.toArray) :=
  y_loadr ho hx ht hl fun w hw => fun j u hj => by
    have h2 := (hS w hw).elem hm h0 h1 (off + j) u (by
      rw [← hv, List.getElem?_take] at hj
      split at hj
      · rw [List.getElem?_drop] at hj; exact hj
      · cases hj)
    rw [Nat.add_assoc]; exact h2
end

section
variable {X : List Nat} {w w' : World} {H H' : Heap} {K : List Kf}
theorem St.takeK (h : St X w H K) (n : Nat) : St X w H (K.take n) := ⟨h.hp, fun k hk => h.kr k (List.mem_of_mem_take hk), h.lo, h.dj⟩
theorem St.pickK (h : St X w H K) (idx : List Nat) : St X w H (Proofs.YtngofknckkiboaaGreatDoor.pickK K idx) := ⟨h.hp, fun k hk => h.kr k (mem_pickK hk), h.lo, h.dj⟩
theorem rd_none {A : Option Addr} {cs : List Value} {l m : Nat} (h : Rdx X w A cs) (hA : A = none) (hl : cs.length = l * m) (hm : 0 < m) : l = 0 := by
  rcases Nat.eq_zero_or_pos l with h0 | h0
  · exact h0
  · obtain ⟨g, b, e⟩ := h.addr (by rw [hl]; exact Nat.mul_pos h0 hm)
    rw [hA] at e; cases e
theorem own_src {A : Option Addr} {l c m i e : Nat} {xs sp : List Value} (h : Hp w H) (hi : H[i]? = some (blkOf A, Cl (xs ++ sp) e)) (ho : Ow A l c m xs sp) : ∀ ad, A = some ad → ∀ j u, xs[j]? = some u → w.cell? (ad.add j) = some u := fun ad hA j u hj => by
  subst hA
  rcases ho.2 with ⟨h0, _⟩ | ⟨g, e1, _⟩
  · cases h0
  injection e1 with e1
  subst e1
  rw [Addr.add_mid, Nat.zero_add]
  exact cell_of h hi (by rw [List.getElem?_append_left (List.getElem?_eq_some_iff.1 hj).1]; exact hj)
theorem own_none {A : Option Addr} {l c m : Nat} {xs sp : List Value} (ho : Ow A l c m xs sp) (h : A = none) : l = 0 := by
  rcases ho.2 with ⟨_, h0, _⟩ | ⟨g, e1, _⟩
  · exact h0
  · rw [h] at e1; cases e1
end
theorem fl_set {α : Type} {enc : α → List Value} {m : Nat} (hm : ∀ x, (enc x).length = m) (l : List α) (sp : List Value) {k : Nat} (u : α) (hk : k < l.length) : (l.flatMap enc ++ sp).take (0 + k * m) ++ enc u ++ (l.flatMap enc ++ sp).drop (0 + k * m + (enc u).length) = (l.set k u).flatMap enc ++ sp := by
  have hlen := fl_len hm l
  have hle : (k + 1) * m ≤ l.length * m := Nat.mul_le_mul_right m hk
  rw [Nat.zero_add, hm, show k * m + m = (k + 1) * m by rw [Nat.add_mul, Nat.one_mul], List.take_append_of_le_length (by rw [hlen]; exact Nat.mul_le_mul_right m (by omega)), List.drop_append_of_le_length (by rw [hlen]; exact hle), fl_take hm, fl_drop hm, List.set_eq_take_append_cons_drop, if_pos hk]
  simp
section
variable [Dfs] {P : Program} {n : Nat} {env : Env} {w : World} {o : Oper} {K : Env → World → Prop} {H : Heap}
/-- append to an own row, in terms of what the rows mean. -/
theorem a_appM {α : Type} {enc : α → List Value} {xs ys : List α} {t ty' e m by' c i sc : Nat} {x y : Operand} {A B : Option Addr} {sp z : List Value} (ho : o.op = .call { callee := .builtin .append, args := #[x, y], argTypes := #[t, ty'] }) (hty : ty' = t) {d : Nat} (hd : o.dst = some d) (hn : Nat.blt d n = true)
    (hx : env.ev x = some (.slice A xs.length c)) (hy : env.ev y = some (.slice B ys.length sc)) (ht : elemSize P t = some (e, m)) (hz : zeroCells P e = some z) (hzl : z.length = m) (hby : (P.info? e).map (·.bytes) = some by') (hm : 0 < m) (hlen : ∀ x, (enc x).length = m)
    (how : Ow A xs.length c m (xs.flatMap enc) sp) (h : Hp w H) (hi : H[i]? = some (blkOf A, Cl (xs.flatMap enc ++ sp) e)) (hsrc : ∀ ad, B = some ad → ∀ j u, (ys.flatMap enc)[j]? = some u → w.cell? (ad.add j) = some u) (hB : B = none → ys.length = 0) (h1 : ∀ x, ∀ v ∈ enc x, v.oneCell' = true)
    (h63 : xs.length + ys.length ≤ maxLen) (hbytes : (xs.length + ys.length) * by' ≤ 140737488355328)
    (hK : ∀ A' c' sp' w', Ow A' (xs ++ ys).length c' m ((xs ++ ys).flatMap enc) sp' → Hp w' (H.set i (blkOf A', Cl ((xs ++ ys).flatMap enc ++ sp') e)) → Fr (blkOf A).toList w w' → (∀ g, blkOf A' = some g → blkOf A = some g ∨ w.heap.size ≤ g) → K ((d, (.slice A' (xs ++ ys).length c')) :: env) w') : Act1 P n env w o K :=
  a_append ho hty hd hn hx hy ht hz hzl hby hm how h hi (fl_len hlen ys) hsrc hB (fun v hv => by obtain ⟨x, _, hx⟩ := List.mem_flatMap.1 hv; exact h1 x v hx) h63 hbytes fun A' c' sp' w' a b c d => by
    rw [← List.flatMap_append] at a b
    rw [← List.length_append] at a ⊢
    exact hK A' c' sp' w' a b c d
/-- An element of an own row is written. -/
theorem a_setrow {α : Type} {enc : α → List Value} {t g i ty l c m : Nat} {x y : Operand} {v : Value} {xs : List α} {sp : List Value} {q : Int} {u : α} (ho : o.op = .store t x y) (hd : o.dst = none) (hx : env.ev x = some (.pointer (some ⟨g, 0 + q.toNat * m, none⟩))) (hy : env.ev y = some v)
    (hv : v.cells.toList = enc u) (hm : ∀ x, (enc x).length = m) (ht : (P.info? t).map (·.size) = some m) (h1 : ∀ v ∈ enc u, v.oneCell' = true) (how : Ow (some ⟨g, 0, none⟩) l c m (xs.flatMap enc) sp) (h : Hp w H) (hi : H[i]? = some (blkOf (some ⟨g, 0, none⟩), Cl (xs.flatMap enc ++ sp) ty)) (h0 : 0 ≤ q) (hq : q < xs.length) (hm0 : 0 < m)
    (hk : ∀ w', Ow (some ⟨g, 0, none⟩) (xs.set q.toNat u).length c m ((xs.set q.toNat u).flatMap enc) sp → Hp w' (H.set i (blkOf (some ⟨g, 0, none⟩), Cl ((xs.set q.toNat u).flatMap enc ++ sp) ty)) → Fr [g] w w' → K env w') : Act1 P n env w o K := by
  have hql : q.toNat < xs.length := by omega
  have hlen := fl_len hm xs
  have hle : (q.toNat + 1) * m ≤ xs.length * m := Nat.mul_le_mul_right m hql
  have e2 : (q.toNat + 1) * m = q.toNat * m + m := by rw [Nat.add_mul, Nat.one_mul]
  refine a_store_vs (vs := enc u) ho hd hx hy hv (by rw [hm]; exact ht) h1 h hi (by rw [hm, List.length_append, hlen]; omega) fun w' hp hf _ => ?_
  rw [fl_set hm xs sp u hql] at hp
  refine hk w' ⟨by rw [fl_len hm], ?_⟩ hp hf
  rcases how.2 with ⟨h2, _⟩ | ⟨g', e, h3, h4, h5⟩
  · cases h2
  · refine .inr ⟨g', e, ?_, ?_, h5⟩
    · rw [← h3, List.length_append, List.length_append, fl_len hm, hlen, List.length_set]
    · have hl := how.1
      rw [hlen] at hl
      rw [List.length_set]
      have := Nat.eq_of_mul_eq_mul_right hm0 hl
      omega
end
theorem St.conv {X : List Nat} {w : World} {H : Heap} {K : List Kf} {i ty : Nat} {k : Option Nat} {cs cs' : List Value} (h : St X w H K) (hi : H[i]? = some (k, Cl cs ty)) (he : cs = cs') : St X w (H.set i (k, Cl cs' ty)) K := by
  subst he
  have : H.set i (k, Cl cs ty) = H := by
    apply List.ext_getElem?
    intro j
    rw [List.getElem?_set]
    by_cases e : i = j
    · subst e
      obtain ⟨hl, hi'⟩ := List.getElem?_eq_some_iff.1 hi
      simp [hl, hi']
    · simp [e]
  rw [this]
  exact h
theorem St.callN {X : List Nat} {w w' : World} {H H1 : Heap} {K K1 : List Kf} (h : St X w H K) (hs : St (keys H ++ X) w' H1 K1) (hf : Fr [] w w') (hk : ∀ k ∈ keys H1, w.heap.size ≤ k) : St X w' (H ++ H1) (K ++ K1) := by
  have h1 := h.step (h.hp.add ⟨hf, hs.hp, hk⟩) hf (by simp) fun k hk' => by
    rw [keys_append] at hk'
    rcases List.mem_append.1 hk' with h2 | h2
    · exact .inl h2
    · exact .inr (hk k h2)
  refine ⟨h1.hp, fun k hk' => ?_, h1.lo, h1.dj⟩
  rcases List.mem_append.1 hk' with hk' | hk'
  · exact h1.kr k hk'
  · refine k.sub (hs.kr k hk') fun y hy => ?_
    rw [keys_append] at hy
    simp only [List.mem_append] at hy ⊢
    rcases hy with (hy | hy) | hy
    · exact .inr (.inl hy)
    · exact .inl hy
    · exact .inr (.inr hy)
section
variable [Dfs] {P : Program} {n : Nat} {env : Env} {w : World} {o : Oper} {K : Env → World → Prop} {H : Heap}
omit [Dfs] in
theorem rep_flat {α : Type} {enc : α → List Value} (u : α) (k : Nat) : (List.replicate k u).flatMap enc = (List.replicate k (enc u)).flatten := by
  induction k with
  | zero => rfl
  | succ k ih => rw [List.replicate_succ, List.replicate_succ, List.flatMap_cons, List.flatten_cons, ih]
/-- make([]T, n). -/
theorem a_mkM {α : Type} {enc : α → List Value} {t e m by' : Nat} {x y : Operand} {kl kc : IntKind} {q : Int} {u : α} {z : List Value} (ho : o.op = .makeSlice t x y) {d : Nat} (hd : o.dst = some d) (hn : Nat.blt d n = true) (hx : env.ev x = some (.int kl q)) (hy : env.ev y = some (.int kc q))
    (ht : elemSize P t = some (e, m)) (hz : zeroCells P e = some z) (hzl : z.length = m) (hby : (P.info? e).map (·.bytes) = some by') (hu : z = enc u) (hm : ∀ x, (enc x).length = m) (h0 : 0 ≤ q) (h63 : q ≤ 281474976710656) (hb : by' * q.toNat ≤ 281474976710656) (h : Hp w H)
    (hK : ∀ g w', Ow (some ⟨g, 0, none⟩) (List.replicate q.toNat u).length (List.replicate q.toNat u).length m ((List.replicate q.toNat u).flatMap enc) [] → Hp w' (H ++ [(some g, Cl ((List.replicate q.toNat u).flatMap enc ++ []) e)]) → Fr [] w w' → w.heap.size ≤ g → K ((d, (.slice (some ⟨g, 0, none⟩) (List.replicate q.toNat u).length (List.replicate q.toNat u).length)) :: env) w') : Act1 P n env w o K := by
  obtain ⟨k, rfl⟩ := Int.eq_ofNat_of_zero_le h0
  simp only [Int.toNat_natCast] at hK hb
  refine a_mksl (l := k) (c := k) ho hd hn hx hy ht hz hzl hby (Nat.le_refl _) hb (by omega) h fun g w' hp hf hg => ?_
  have e1 : (List.replicate k u).flatMap enc = (List.replicate k z).flatten := by rw [rep_flat, hu]
  have := hK g w' ⟨fl_len hm _, .inr ⟨g, rfl, by rw [List.append_nil, fl_len hm], Nat.le_refl _, by simp only [List.length_replicate]; unfold maxLen; omega⟩⟩ (by rw [List.append_nil, e1]; exact hp) hf hg
  rw [List.length_replicate] at this
  exact this
end
/-- A loop's way out, or a place where ways meet: what is behind it is walked once. -/
theorem use_out [Dfs] {P : Program} {n : Nat} {y : Code} {Q : EQ} {K : Env → World → Prop} {G : Prop} (hK : ∀ e v, Wp P n y Q e v → K e v) (M : Env → World → Prop) (hM : ∀ e w, M e w → Wp P n y Q e w)
    (hG : (∀ e' e w, Env.Le e e' → M e w → K e' w) → G) : G := hG fun e' e w hl hm => hK e' w (Wp_weak e hl (hM e w hm))
section
variable [Dfs] {P : Program} {n : Nat} {env : Env} {S : World → Prop} {o : Oper}
theorem y_ixs2 {t : Nat} {x i : Operand} {p : List UInt8} {k : IntKind} {q : Int} (ho : o.op = .index t x i) (hx : env.ev x = some (sv p)) (hi : env.ev i = some (.int k q)) (ht : P.underlying t = some .string) (h0 : 0 ≤ q) (h1 : q < p.length) : Yld P n env S o (.int .u8 ((ix p q).toNat : Int)) := by
  have hl : q.toNat < p.length := by omega
  have := y_ixs (P := P) (n := n) (S := S) ho hx hi ht h0 (List.getElem?_eq_getElem hl)
  have e : ix p q = p[q.toNat] := by unfold ix; rw [List.getElem?_eq_getElem hl]; rfl
  rw [e]; exact this
theorem y_quoN {x y : Operand} {t u : Nat} {k : IntKind} {p q : Int} (ho : o.op = .binOp .quo t x y u) (hx : env.ev x = some (.int k p)) (hy : env.ev y = some (.int k q)) (hp : 0 ≤ p) (h0 : 0 < q) (hw : ∀ r : Int, 0 ≤ r → r ≤ p → k.wrap r = r) : Yld P n env S o (.int k (p / q)) :=
  y_quoP ho hx hy hp h0 (hw _ (Int.ediv_nonneg hp (by omega)) (Int.ediv_le_self _ hp))
/-- A cut of a row that lasts. -/
theorem cutK {α : Type} {enc : α → List Value} {m : Nat} {X : List Nat} {w : World} {A : Option Addr} {c : Nat} {l : List α} {p q : Int} (hm : ∀ x, (enc x).length = m) (hm0 : 0 < m) (h : Sld X w A l.length c m (l.flatMap enc)) (h0 : 0 ≤ p) (h1 : p ≤ q) (h2 : q ≤ l.length) :
    ∃ A' c', Sld X w A' ((l.take q.toNat).drop p.toNat).length c' m (((l.take q.toNat).drop p.toNat).flatMap enc) ∧
      ∀ {P : Program} {n : Nat} {env : Env} {S : World → Prop} {o : Oper} {t e : Nat} {x : Operand} {lo hi : Option Operand}, o.op = .slice t x lo hi none → env.ev x = some (.slice A l.length c) → elemSize P t = some (e, m) → cutLo env lo = some p → cutHi env l.length hi = some q →
        Yld P n env S o (.slice A' ((l.take q.toNat).drop p.toNat).length c') := by
  have hlen : ((l.take q.toNat).drop p.toNat).length = q.toNat - p.toNat := by
    rw [List.length_drop, List.length_take]; omega
  refine ⟨if c = p.toNat then A else A.map (·.add (p.toNat * m)), c - p.toNat, ⟨?_, fl_len hm _, by rw [hlen]; have := h.lc; omega, Nat.le_trans (Nat.sub_le _ _) h.cm⟩, ?_⟩
  · rcases Nat.eq_zero_or_pos ((l.take q.toNat).drop p.toNat).length with e0 | e0
    · rw [List.eq_nil_of_length_eq_zero e0]; exact Rdx.nil
    · rw [hlen] at e0
      have hlc := h.lc
      rw [if_neg (by omega)]
      obtain ⟨g, b, rfl⟩ := h.rd.addr (by rw [fl_len hm]; exact Nat.mul_pos (by omega) hm0)
      have hr := (h.rd.drop (p.toNat * m)).take ((q.toNat - p.toNat) * m)
      rw [fl_drop hm, fl_take hm] at hr
      have e1 : (l.take q.toNat).drop p.toNat = (l.drop p.toNat).take (q.toNat - p.toNat) := List.drop_take ..
      rw [e1]
      simpa [Addr.add_mid] using hr
  · intro P n env S o t e x lo hi ho hx ht hlo hhi
    rw [hlen]
    exact y_cutl ho hx ht hlo hhi h0 h1 (by have := h.lc; omega) h.lc
theorem cutK0 {α : Type} {enc : α → List Value} {m : Nat} {X : List Nat} {w : World} {A : Option Addr} {c : Nat} {l : List α} {q : Int} (hm : ∀ x, (enc x).length = m) (hm0 : 0 < m) (h : Sld X w A l.length c m (l.flatMap enc)) (h1 : 0 ≤ q) (h2 : q ≤ l.length) :
    ∃ A' c', Sld X w A' (l.take q.toNat).length c' m ((l.take q.toNat).flatMap enc) ∧
      ∀ {P : Program} {n : Nat} {env : Env} {S : World → Prop} {o : Oper} {t e : Nat} {x : Operand} {lo hi : Option Operand}, o.op = .slice t x lo hi none → env.ev x = some (.slice A l.length c) → elemSize P t = some (e, m) → cutLo env lo = some 0 → cutHi env l.length hi = some q →
        Yld P n env S o (.slice A' (l.take q.toNat).length c') := cutK (p := 0) hm hm0 h (by omega) h1 h2
theorem cutKe {α : Type} {enc : α → List Value} {m : Nat} {X : List Nat} {w : World} {A : Option Addr} {c : Nat} {l : List α} {p : Int} (hm : ∀ x, (enc x).length = m) (hm0 : 0 < m) (h : Sld X w A l.length c m (l.flatMap enc)) (h0 : 0 ≤ p) (h1 : p ≤ l.length) :
    ∃ A' c', Sld X w A' (l.drop p.toNat).length c' m ((l.drop p.toNat).flatMap enc) ∧
      ∀ {P : Program} {n : Nat} {env : Env} {S : World → Prop} {o : Oper} {t e : Nat} {x : Operand} {lo hi : Option Operand}, o.op = .slice t x lo hi none → env.ev x = some (.slice A l.length c) → elemSize P t = some (e, m) → cutLo env lo = some p → cutHi env l.length hi = some (l.length : Int) →
        Yld P n env S o (.slice A' (l.drop p.toNat).length c') := by
  have := cutK (q := (l.length : Int)) hm hm0 h h0 h1 (Int.le_refl _)
  rw [Int.toNat_natCast, List.take_length] at this
  exact this
theorem y_fieldA {t f ft off k : Nat} {x : Operand} {us ds : List Value} (ho : o.op = .field t x f) (hx : env.ev x = some (.agg us.toArray)) (hf : fieldOff P t f = some off) (hft : (match P.underlying t with | some (.struct fs) => (fs[f]?).map (·.type) | _ => none) = some ft) (hp : aggSize P ft = some k) (hv : (us.drop off).take k = ds) (hl : ds.length = k) : Yld P n env S o (.agg ds.toArray) := fun a r w _ => by
  unfold fieldOff at hf
  split at hf <;> try (cases hf; done)
  rename_i fs hu
  simp only [hu] at hft
  split at hf <;> try (cases hf; done)
  rename_i fd hfd
  simp only [hfd, Option.map_some, Option.some.injEq] at hft
  split at hf <;> try (cases hf; done)
  rename_i i hi
  split at hf
  · cases hf
  · injection hf with hf
    subst hf
    subst hft
    have hA : (isAgg fd.type).run P w = .ok true w := by
      unfold aggSize at hp
      cases hu' : P.underlying fd.type with
      | none => simp [hu'] at hp
      | some d =>
        unfold isAgg
        simp only [Sem.run_bind, run_underlying hu', Result.andThen_ok]
        cases d <;> simp [hu'] at hp <;> rfl
    have hs : (P.info? fd.type).map (·.size) = some k := by
      unfold aggSize at hp
      split at hp <;> first | exact hp | (cases hp; done)
    have hz : (sizeOf fd.type).run P w = .ok k w := run_sizeOf hs w
    unfold execOp
    simp [ho, r.eval hx, Instr.field, run_underlying hu, hfd, asAgg, part, hA, hz]
    rw [← hv]
end
end Go.Proofs.YtngofknckkiboaaGreatDoor

/- Rules for slices, strings, arrays and struct values. -/
import Derived.Test.YtdckemiebnfjcaaGreatDoorSy
import Derived.Maps.AppendAt
import Derived.Laws.MakeOwn
import Derived.Laws.BytesArg
section
namespace Go.Proofs.YtdckemiebnfjcaaGreatDoor
open Go.RowKit
abbrev Heap := List (Option Nat × Obj)
def keys (H : Heap) : List Nat := H.filterMap (·.1)
/- A run never takes a draw back. -/
theorem ok_bind {ε α β : Type} {x : Except ε α} {f : α → Except ε β} {r : β} (h : (x >>= f) = .ok r) : ∃ a, x = .ok a ∧ f a = .ok r := by
  cases x with
  | error e => cases h
  | ok a => exact ⟨a, rfl, h⟩
theorem viewStore_drawn {p : Program} {w : World} {t a : Addr} {u : TypeId} {v : Value} {b : Bool} {r : World × List Addr} (h : w.viewStore p t u a v b = .ok r) : r.1.drawn = w.drawn := by
  unfold World.viewStore at h
  simp only at h
  split at h
  · obtain ⟨_, h1, _⟩ := ok_bind h; cases h1
  · obtain ⟨x, _, h⟩ := ok_bind h
    split at h
    · split at h
      · obtain ⟨_, h1, _⟩ := ok_bind h; cases h1
      · obtain ⟨_, _, h⟩ := ok_bind h
        injection h with h
        rw [← h]
    · cases h
theorem farStore_drawn {p : Program} {w w2 : World} {a : Addr} {v : Value} {b : Bool} {x : List Addr} (h : w.farStore p a v b = .ok (w2, x)) : w2.drawn = w.drawn := by
  unfold World.farStore at h
  split at h
  · split at h
    · rename_i r hr
      injection h with h
      have := viewStore_drawn hr
      rw [h] at this; exact this
    · cases h
  · cases h
theorem freeze_drawn (w : World) (a : Addr) (n : Nat) : (w.freeze a n).drawn = w.drawn := by unfold World.freeze; split <;> rfl
theorem ask_drawn {α : Type} (m : Ask α) : ∀ w : World, w.drawn ≤ (w.ask m).2.drawn := by
  induction m with
  | done a => intro w; exact Nat.le_refl _
  | ask s n k ih =>
    intro w
    unfold World.ask
    simp only
    split
    · exact ih _ _
    · have := ih ((Question.extern s n).cut (w.tape w.drawn (Question.extern s n))) { w with drawn := w.drawn + 1 }
      exact Nat.le_trans (Nat.le_succ _) this
theorem sys_drawn (w : World) (c : Sys) : w.drawn ≤ (w.sys c).2.drawn := by
  have h := ask_drawn (Kernel.perform c w.os) w
  unfold World.sys
  split
  · exact Nat.le_refl _
  · rename_i e; rw [e] at h; exact h
theorem run_drawn {α : Type} {P : Program} (m : Sem α) : ∀ (w : World) (v : α) (w' : World), m.run P w = .ok v w' → w.drawn ≤ w'.drawn := by
  induction m with
  | pure a => intro w v w' h; simp [Sem.run] at h; rw [h.2]; exact Nat.le_refl _
  | load m a k ih =>
    intro w v w' h
    simp only [Sem.run] at h
    repeat' split at h
    all_goals first | (have := ih _ _ _ _ h; exact this) | cases h
  | store m a v k ih =>
    intro w u w' h
    cases v <;> simp only [Sem.run] at h <;> first
      | (cases h; done)
      | (split at h
         · split at h
           · cases h
           · (have := ih _ _ _ h; exact this)
         · split at h
           · rename_i hf; have := ih _ _ _ h; rw [farStore_drawn hf] at this; exact this
           · cases h)
  | new o k ih => intro w v w' h; simp only [Sem.run] at h; (have := ih _ _ _ _ h; exact this)
  | shape r k ih => intro w v w' h; simp only [Sem.run] at h; (have := ih _ _ _ _ h; exact this)
  | freeze a n k ih => intro w v w' h; simp only [Sem.run] at h; have := ih _ _ _ h; rw [freeze_drawn] at this; exact this
  | frozen a k ih => intro w v w' h; simp only [Sem.run] at h; (have := ih _ _ _ _ h; exact this)
  | getObj r k ih =>
    intro w v w' h
    simp only [Sem.run] at h
    split at h
    · cases h
    · (have := ih _ _ _ _ h; exact this)
    · cases h
  | setObj r o k ih =>
    intro w v w' h
    simp only [Sem.run] at h
    split at h
    · cases h
    · (have := ih _ _ _ h; exact this)
    · cases h
  | choose q k ih =>
    intro w v w' h
    simp only [Sem.run] at h
    split at h
    · (have := ih _ _ _ _ h; exact this)
    · have := ih _ _ _ _ h; exact Nat.le_trans (Nat.le_succ _) this
  | sys c k ih => intro w v w' h; simp only [Sem.run] at h; have := ih _ _ _ _ h; exact Nat.le_trans (sys_drawn w c) this
  | program k ih => intro w v w' h; simp only [Sem.run] at h; (have := ih _ _ _ _ h; exact this)
  | mark m k ih => intro w v w' h; simp only [Sem.run] at h; (have := ih _ _ _ h; exact this)
  | halt h => intro w v w' h; simp only [Sem.run] at h; cases h
structure Fr (X : List Nat) (w w' : World) : Prop where
  os : w'.os = w.os
  tape : w'.tape = w.tape
  output : w'.output = w.output
  size : w.heap.size ≤ w'.heap.size
  block : ∀ k, k < w.heap.size → k ∉ X → w'.heap[k]? = w.heap[k]?
  drawn : w.drawn ≤ w'.drawn
theorem Fr.refl (X : List Nat) (w : World) : Fr X w w := ⟨rfl, rfl, rfl, Nat.le_refl _, fun _ _ _ => rfl, Nat.le_refl _⟩
theorem Fr.drew (w : World) : Fr [] w w.drew := ⟨rfl, rfl, rfl, Nat.le_refl _, fun _ _ _ => rfl, Nat.le_succ _⟩
theorem Fr.alloc (w : World) (o : Obj) : Fr [] w (w.alloc o) := ⟨rfl, rfl, rfl, by simp, fun k hk _ => heap_alloc_old w o hk, Nat.le_refl _⟩
theorem Fr.setRow (w : World) (g : Nat) (cs : Array Value) : Fr [g] w (w.setRow g cs) := ⟨rfl, rfl, rfl, by simp, fun k _ hk => setRow_other w g k cs (by simpa using hk), Nat.le_refl _⟩
theorem Fr.step {X Y : List Nat} {w0 w w' : World} (h : Fr X w0 w) (h' : Fr Y w w') (hY : ∀ y ∈ Y, y ∈ X ∨ w0.heap.size ≤ y) : Fr X w0 w' :=
  ⟨h'.os.trans h.os, h'.tape.trans h.tape, h'.output.trans h.output, Nat.le_trans h.size h'.size, fun k hk hX =>
    (h'.block k (Nat.lt_of_lt_of_le hk h.size) (fun hy => (hY k hy).elim hX (fun hle => by omega))).trans (h.block k hk hX), Nat.le_trans h.drawn h'.drawn⟩
theorem Fr.step0 {X : List Nat} {w0 w w' : World} (h : Fr X w0 w) (h' : Fr [] w w') : Fr X w0 w' := h.step h' (fun _ hy => by cases hy)
theorem Fr.mono {X Y : List Nat} {w w' : World} (h : Fr X w w') (hX : ∀ x ∈ X, x ∈ Y) : Fr Y w w' := ⟨h.os, h.tape, h.output, h.size, fun k hk hn => h.block k hk (fun hx => hn (hX k hx)), h.drawn⟩
theorem Fr.below {w w' : World} (h : Fr [] w w') : Below w.heap.size w w' := ⟨h.os, h.tape, h.output, h.size, fun k hk => h.block k hk (by simp)⟩
theorem Fr.cell {X : List Nat} {w w' : World} (h : Fr X w w') {p : Addr} (hp : p.block < w.heap.size) (hX : p.block ∉ X) : w'.cell? p = w.cell? p := World.cell?_of_block (h.block _ hp hX)
structure Hp (w : World) (H : Heap) : Prop where
  blk : ∀ (i : Nat) g o, H[i]? = some (some g, o) → w.heap[g]? = some o
  inj : ∀ (i j : Nat) g o o', H[i]? = some (some g, o) → H[j]? = some (some g, o') → i = j
theorem heap_lt {w : World} {g : Nat} {o : Obj} (h : w.heap[g]? = some o) : g < w.heap.size := by
  rcases Nat.lt_or_ge g w.heap.size with hlt | hge
  · exact hlt
  · rw [Array.getElem?_eq_none hge] at h; cases h
theorem mem_keys {H : Heap} {k : Nat} : k ∈ keys H ↔ ∃ (i : Nat) (o : Obj), H[i]? = some (some k, o) := by
  unfold keys
  rw [List.mem_filterMap]
  constructor
  · rintro ⟨⟨a, b⟩, hm, he⟩
    obtain ⟨i, hi⟩ := List.mem_iff_getElem?.1 hm
    exact ⟨i, b, by rw [hi]; simp at he; rw [he]⟩
  · rintro ⟨i, o, hi⟩
    exact ⟨(some k, o), List.mem_of_getElem? hi, rfl⟩
section
variable {w w' : World} {H H' : Heap} {g i : Nat} {o o' : Obj}
theorem Hp.nil (w : World) : Hp w [] := ⟨fun _ _ _ h => by simp at h, fun _ _ _ _ _ h => by simp at h⟩
theorem Hp.at (h : Hp w H) (hi : H[i]? = some (some g, o)) : w.heap[g]? = some o := h.blk i g o hi
theorem Hp.lt (h : Hp w H) (hi : H[i]? = some (some g, o)) : g < w.heap.size := heap_lt (h.at hi)
theorem Hp.keys_lt (h : Hp w H) : ∀ k ∈ keys H, k < w.heap.size := fun k hk => by
  obtain ⟨i, o, hi⟩ := mem_keys.1 hk
  exact h.lt hi
theorem Hp.drew (h : Hp w H) : Hp w.drew H := ⟨h.blk, h.inj⟩
theorem Hp.keep {X : List Nat} (h : Hp w H) (hf : Fr X w w') (hX : ∀ k ∈ keys H, k ∉ X) : Hp w' H :=
  ⟨fun i g o hi => (hf.block g (h.lt hi) (hX g (mem_keys.2 ⟨i, o, hi⟩))).trans (h.at hi), h.inj⟩
theorem Hp.keep0 (h : Hp w H) (hf : Fr [] w w') : Hp w' H := h.keep hf (by simp)
theorem Hp.push (h : Hp w H) (hf : Fr [] w w') (hg : w.heap.size ≤ g) (hb : w'.heap[g]? = some o) : Hp w' (H ++ [(some g, o)]) := by
  have hk := h.keep0 hf
  have cases1 : ∀ (j : Nat) a b, (H ++ [(some g, o)])[j]? = some (some a, b) → (H[j]? = some (some a, b)) ∨ (j = H.length ∧ a = g ∧ b = o) := fun j a b hj => by
    rw [List.getElem?_append] at hj
    split at hj
    · exact .inl hj
    · rename_i hlt
      by_cases e : j = H.length
      · subst e
        simp at hj
        exact .inr ⟨rfl, hj.1.symm, hj.2.symm⟩
      · rw [List.getElem?_eq_none (by simp; omega)] at hj
        cases hj
  refine ⟨fun j a b hj => ?_, fun j l a b c hj hl => ?_⟩
  · rcases cases1 j a b hj with hj | ⟨_, rfl, rfl⟩
    · exact hk.at hj
    · exact hb
  · rcases cases1 j a b hj with hj | ⟨e1, e2, _⟩ <;> rcases cases1 l a c hl with hl | ⟨f1, f2, _⟩
    · exact h.inj j l a b c hj hl
    · have := h.lt hj; omega
    · have := h.lt hl; omega
    · omega
theorem Hp.alloc (h : Hp w H) (o : Obj) : Hp (w.alloc o) (H ++ [(some w.heap.size, o)]) := h.push (Fr.alloc w o) (Nat.le_refl _) (heap_alloc_new w o)
theorem Hp.setAny {k' : Option Nat} {k : Option Nat} {X : List Nat} (h : Hp w H) (hi : H[i]? = some (k, o)) (hX : ∀ x ∈ X, k = some x) (hf : Fr X w w') (hk : ∀ g', k' = some g' → w'.heap[g']? = some o' ∧ (k = some g' ∨ w.heap.size ≤ g')) : Hp w' (H.set i (k', o')) := by
  have hl : i < H.length := (List.getElem?_eq_some_iff.1 hi).1
  have cases1 : ∀ (j : Nat) a b, (H.set i (k', o'))[j]? = some (some a, b) → (i ≠ j ∧ H[j]? = some (some a, b)) ∨ (i = j ∧ k' = some a ∧ o' = b) := fun j a b hj => by
    rw [List.getElem?_set] at hj
    by_cases e : i = j
    · subst e
      simp [hl] at hj
      exact .inr ⟨rfl, hj⟩
    · simp [e] at hj
      exact .inl ⟨e, hj⟩
  have far : ∀ (j : Nat) a b, i ≠ j → H[j]? = some (some a, b) → k ≠ some a := fun j a b hij hj e => hij (h.inj i j a o b (by rw [hi, e]) hj)
  refine ⟨fun j a b hj => ?_, fun j l a b c hj hl' => ?_⟩
  · rcases cases1 j a b hj with ⟨hij, hj⟩ | ⟨_, e1, e2⟩
    · exact (hf.block a (h.lt hj) (fun hx => far j a b hij hj (hX a hx))).trans (h.at hj)
    · rw [← e2]; exact (hk a e1).1
  · rcases cases1 j a b hj with ⟨hij, hj⟩ | ⟨e0, e1, e2⟩ <;> rcases cases1 l a c hl' with ⟨hil, hl'⟩ | ⟨f0, f1, f2⟩
    · exact h.inj j l a b c hj hl'
    · rcases (hk a f1).2 with e | e
      · exact absurd e (far j a b hij hj)
      · have := h.lt hj; omega
    · rcases (hk a e1).2 with e | e
      · exact absurd e (far l a c hil hl')
      · have := h.lt hl'; omega
    · omega
theorem Hp.setAt (h : Hp w H) (hi : H[i]? = some (some g, o)) (hf : Fr [g] w w') (hg : w'.heap[g]? = some o') : Hp w' (H.set i (some g, o')) :=
  h.setAny hi (by simp) hf fun g' e => by injection e with e; subst e; exact ⟨hg, .inl rfl⟩
theorem Hp.pick (h : Hp w H) (idx : List Nat) (H' : Heap) (hn : idx.Nodup) (hH : idx.map (fun i => H[i]?) = H'.map some) : Hp w H' := by
  have key : ∀ (j : Nat) (e : Option Nat × Obj), H'[j]? = some e → ∃ i : Nat, idx[j]? = some i ∧ H[i]? = some e := fun j e hj => by
    have h1 : (H'.map some)[j]? = some (some e) := by simp [hj]
    rw [← hH] at h1
    rw [List.getElem?_map] at h1
    cases hx : idx[j]? with
    | none => simp [hx] at h1
    | some i => exact ⟨i, rfl, by simpa [hx] using h1⟩
  refine ⟨fun j a b hj => ?_, fun j l a b c hj hl => ?_⟩
  · obtain ⟨i, _, hi⟩ := key j _ hj
    exact h.at hi
  · obtain ⟨i1, a1, b1⟩ := key j _ hj
    obtain ⟨i2, a2, b2⟩ := key l _ hl
    have e12 := h.inj i1 i2 a b c b1 b2
    subst e12
    have l2 : j < idx.length := (List.getElem?_eq_some_iff.1 a1).1
    exact (List.getElem?_inj l2 hn).1 (a1.trans a2.symm)
theorem Hp.conv {k : Option Nat} {cs cs' : List Value} {ty : Nat} (h : Hp w H) (hi : H[i]? = some (k, Cl cs ty)) (he : cs = cs') : Hp w (H.set i (k, Cl cs' ty)) := by
  subst he
  have : H.set i (k, Cl cs ty) = H := by
    apply List.ext_getElem?
    intro j
    rw [List.getElem?_set]
    by_cases e : i = j
    · subst e
      obtain ⟨hl, hi'⟩ := List.getElem?_eq_some_iff.1 hi
      simp [hl, hi']
    · simp [e]
  rw [this]
  exact h
def heapOf {w : World} {H : Heap} (_ : Hp w H) : Heap := H
def pickL (H : Heap) : List Nat → Heap
  | [] => []
  | i :: r => match H[i]? with
    | some e => e :: pickL H r
    | none => pickL H r
theorem Hp.pk (h : Hp w H) (idx : List Nat) (hn : idx.Nodup) : Hp w (pickL H idx) := by
  have key : ∀ (idx : List Nat) (j : Nat) e, (pickL H idx)[j]? = some e → ∃ i : Nat, i ∈ idx ∧ H[i]? = some e := by
    intro idx
    induction idx with
    | nil => intro j e he; simp [pickL] at he
    | cons a r ih =>
      intro j e he
      unfold pickL at he
      cases ha : H[a]? with
      | none => rw [ha] at he; obtain ⟨i, h1, h2⟩ := ih j e he; exact ⟨i, by simp [h1], h2⟩
      | some x =>
        rw [ha] at he
        cases j with
        | zero => simp at he; subst he; exact ⟨a, by simp, ha⟩
        | succ j => obtain ⟨i, h1, h2⟩ := ih j e (by simpa using he); exact ⟨i, by simp [h1], h2⟩
  have inj : ∀ (idx : List Nat), idx.Nodup → ∀ (j l : Nat) g a b, (pickL H idx)[j]? = some (some g, a) → (pickL H idx)[l]? = some (some g, b) → j = l := by
    intro idx
    induction idx with
    | nil => intro _ j l g a b hj; simp [pickL] at hj
    | cons x r ih =>
      intro hnd j l g a b hj hl
      rw [List.nodup_cons] at hnd
      unfold pickL at hj hl
      cases hx : H[x]? with
      | none => rw [hx] at hj hl; exact ih hnd.2 j l g a b hj hl
      | some y =>
        rw [hx] at hj hl
        cases j with
        | zero =>
          cases l with
          | zero => rfl
          | succ l =>
            simp at hj
            subst hj
            obtain ⟨i, h1, h2⟩ := key r l _ (by simpa using hl)
            have := h.inj x i g a b hx h2
            subst this
            exact absurd h1 hnd.1
        | succ j =>
          cases l with
          | zero =>
            simp at hl
            subst hl
            obtain ⟨i, h1, h2⟩ := key r j _ (by simpa using hj)
            have := h.inj x i g b a hx h2
            subst this
            exact absurd h1 hnd.1
          | succ l =>
            have := ih hnd.2 j l g a b (by simpa using hj) (by simpa using hl)
            omega
  exact ⟨fun j g o hj => by obtain ⟨i, _, h2⟩ := key idx j _ hj; exact h.at h2, fun j l g a b hj hl => inj idx hn j l g a b hj hl⟩
theorem Hp.after {H0 H1 Hx : Heap} {X : List Nat} (h : Hp w (H0 ++ Hx)) (hX : ∀ x ∈ X, x ∈ keys Hx) (hf : Fr X w w') (h1 : Hp w' H1) (hk : ∀ k ∈ keys H1, k ∈ keys Hx ∨ w.heap.size ≤ k) : Hp w' (H0 ++ H1) := by
  have l0 : ∀ (j : Nat) e, H0[j]? = some e → (H0 ++ Hx)[j]? = some e ∧ j < H0.length := fun j e hj => by
    have hl : j < H0.length := (List.getElem?_eq_some_iff.1 hj).1
    exact ⟨by rw [List.getElem?_append_left hl]; exact hj, hl⟩
  have nx : ∀ (j : Nat) a b, H0[j]? = some (some a, b) → a ∉ keys Hx := fun j a b hj hx => by
    obtain ⟨q, c, hq⟩ := mem_keys.1 hx
    obtain ⟨h2, hl⟩ := l0 j _ hj
    have h3 : (H0 ++ Hx)[H0.length + q]? = some (some a, c) := by rw [List.getElem?_append_right (by omega)]; simpa using hq
    have := h.inj _ _ _ _ _ h2 h3
    omega
  have cases1 : ∀ (j : Nat) a b, (H0 ++ H1)[j]? = some (some a, b) → H0[j]? = some (some a, b) ∨ (H0.length ≤ j ∧ H1[j - H0.length]? = some (some a, b)) := fun j a b hj => by
    rcases Nat.lt_or_ge j H0.length with hl | hl
    · rw [List.getElem?_append_left hl] at hj; exact .inl hj
    · rw [List.getElem?_append_right hl] at hj; exact .inr ⟨hl, hj⟩
  refine ⟨fun j a b hj => ?_, fun j l a b c hj hl => ?_⟩
  · rcases cases1 j a b hj with hj | ⟨_, hj⟩
    · have hb := h.at (l0 j _ hj).1
      exact (hf.block a (heap_lt hb) (fun hx => nx j a b hj (hX a hx))).trans hb
    · exact h1.at hj
  · have apart : ∀ (p q : Nat) (b c : Obj), H0[p]? = some (some a, b) → H1[q]? = some (some a, c) → False := fun p q b c hp hq => by
      rcases hk a (mem_keys.2 ⟨q, c, hq⟩) with hx | hx
      · exact nx p a b hp hx
      · have := heap_lt (h.at (l0 p _ hp).1); omega
    rcases cases1 j a b hj with hj | ⟨hj0, hj⟩ <;> rcases cases1 l a c hl with hl | ⟨hl0, hl⟩
    · exact h.inj j l a b c (l0 j _ hj).1 (l0 l _ hl).1
    · exact (apart _ _ _ _ hj hl).elim
    · exact (apart _ _ _ _ hl hj).elim
    · have := h1.inj _ _ _ _ _ hj hl
      omega
theorem Hp.ne (h : Hp w H) {j g2 : Nat} {o2 : Obj} (hi : H[i]? = some (some g, o)) (hj : H[j]? = some (some g2, o2)) (hij : i ≠ j) : g ≠ g2 := by
  rintro rfl
  exact hij (h.inj i j g o o2 hi hj)
end
def entersB (P : Program) (f : FuncId) : Bool := match P.funcs[f]? with
  | some fn => !(fn.name == "runtime.NumGoroutine") && fn.body.isSome
  | none => false
def Fn (P : Program) (f : FuncId) (args : List Value) (w : World) (Post : Value → World → Prop) : Prop := entersB P f = true ∧ Calls P f args.toArray w fun e w' => ∃ v, e = .returned v ∧ Post v w'
theorem Fn_of {P : Program} {f : FuncId} {fn : Func} {c : Code} {args : List Value} {w : World} {Post : Value → World → Prop} (n : Nat)
    (he : entersB P f = true) (hf : P.funcs[f]? = some fn) (hb : fn.body = some c) (hn : fn.ntmps = n) (hle : Nat.ble args.length n = true) (h : Wp P n c (Fq P n fn fun e w' => ∃ v, e = .returned v ∧ Post v w') (argEnv 0 args) w) : Fn P f args w Post :=
  ⟨he, Calls_of n hf hb hn hle h⟩
theorem Fn.mono {P : Program} {f : FuncId} {args : List Value} {w : World} {Post Post' : Value → World → Prop} (h : Fn P f args w Post) (hp : ∀ v w', Post v w' → Post' v w') : Fn P f args w Post' :=
  ⟨h.1, Calls.mono h.2 fun _ _ ⟨v, he, hv⟩ => ⟨v, he, hp _ _ hv⟩⟩
theorem fR [Dfs] {P : Program} {n : Nat} {fn : Func} {env : Env} {w : World} {Post : Value → World → Prop} {v : Value} (hr : Res P n fn env w v) (hp : Post v w) : Fq P n fn (fun e w' => ∃ v, e = .returned v ∧ Post v w') .ret env w := ⟨v, hr, v, rfl, hp⟩
theorem fE [Dfs] {P : Program} {n : Nat} {fn : Func} {env : Env} {w : World} {Post : Value → World → Prop} {v : Value} (hr : Res P n fn env w v) (hp : Post v w) : Fq P n fn (fun e w' => ∃ v, e = .returned v ∧ Post v w') .normal env w := ⟨v, hr, v, rfl, hp⟩
section
variable [Dfs] {P : Program} {n : Nat} {env : Env} {w : World} {o : Oper} {K : Env → World → Prop} {H : Heap}
theorem a_call {f : FuncId} {xs : List Operand} {ts : Array TypeId} {vs : List Value} {Post : Value → World → Prop} (ho : o.op = .call { callee := .value (.func f), args := xs.toArray, argTypes := ts }) {d : Nat} (hd : o.dst = some d) (hn : Nat.blt d n = true)
    (hx : env.evs xs = some vs) (hc : Fn P f vs w Post) (hk : ∀ v w', Post v w' → K ((d, v) :: env) w') : Act1 P n env w o K := fun a r => by
  have e : (xs.toArray.map a.eval) = vs.toArray := by rw [List.map_toArray, r.evals hx]
  have hrun : (execOp a.eval o).run P w = .ok (.enter f vs.toArray) w := by
    have h1 := hc.1
    unfold entersB at h1
    cases hq : P.funcs[f]? with
    | none => simp [hq] at h1
    | some fn =>
      simp only [hq, Bool.and_eq_true, Bool.not_eq_true', beq_eq_false_iff_ne] at h1
      obtain ⟨h2, h3⟩ := h1
      have h4 : ¬ fn.body = none := by intro hbb; simp [hbb] at h3
      unfold execOp
      simp only [ho, resolve, e, Act.eval, Deferred.ofValue, Sem.run_bind, Sem.run_pure, Result.andThen_ok, invoke]
      simp [callFunc, hq, h2, h4]
  unfold Oper.wp
  rw [hrun]
  refine Calls.mono hc.2 fun e w' ⟨v, he, hv⟩ => ?_
  subst he
  have r' := r.put hn v
  rw [← hd] at r'
  exact ⟨_, r', hk v w' hv⟩
theorem a_run {v : Value} {w' : World} {d : Nat} (hd : o.dst = some d) (hn : Nat.blt d n = true) (hr : ∀ a, Rep n env a → (execOp a.eval o).run P w = .ok (.value v) w') (hk : K ((d, v) :: env) w') : Act1 P n env w o K := fun a r => by
  unfold Oper.wp
  rw [hr a r]
  have r' := r.put hn v
  rw [← hd] at r'
  exact ⟨_, r', hk⟩
theorem a_runs {w' : World} (hd : o.dst = none) (hr : ∀ a, Rep n env a → (execOp a.eval o).run P w = .ok .skip w') (hk : K env w') : Act1 P n env w o K := fun a r => by
  unfold Oper.wp
  rw [hr a r]
  refine ⟨env, ?_, hk⟩
  rw [hd]
  exact r
omit [Dfs] in
theorem run_loadVar_plain {t g k : Nat} {v : Value} (ht : plainB P t = true) (hc : w.cell? ⟨g, k, none⟩ = some v) : (loadVar t ⟨g, k, none⟩).run P w = .ok v w := by
  have : (isAgg t).run P w = .ok false w := by
    unfold plainB at ht
    cases hu : P.underlying t with
    | none => simp [hu] at ht
    | some d =>
      unfold isAgg
      simp only [Sem.run_bind, run_underlying hu, Result.andThen_ok]
      cases d <;> simp [hu] at ht <;> rfl
  simp [loadVar, this, hc]
omit [Dfs] in
theorem run_loadVar_agg {t g k m : Nat} {cs : List Value} (ht : aggSize P t = some m) (hm : cs.length = m) (hc : w.rangeAt g k cs) : (loadVar t ⟨g, k, none⟩).run P w = .ok (.agg cs.toArray) w := by
  unfold aggSize at ht
  split at ht <;> try (cases ht; done)
  · rename_i d hu
    exact run_loadVar_mid w g k t cs _ hc hu rfl (by rw [ht, hm])
  · rename_i a b hu
    exact run_loadVar_mid w g k t cs _ hc hu rfl (by rw [ht, hm])
end
section
variable [Dfs] {P : Program} {n : Nat} {env : Env} {S : World → Prop} {o : Oper}
theorem y_loadc {t g k : Nat} {x : Operand} {v : Value} (ho : o.op = .load t x) (hx : env.ev x = some (.pointer (some ⟨g, k, none⟩))) (ht : plainB P t = true) (hc : ∀ w, S w → w.cell? ⟨g, k, none⟩ = some v) : Yld P n env S o v := fun a r w hS => by
  unfold execOp
  simp [ho, r.eval hx, Instr.loadAt, Instr.sureAddr, run_loadVar_plain ht (hc w hS)]
theorem y_loadr {t g k m : Nat} {x : Operand} {cs : List Value} (ho : o.op = .load t x) (hx : env.ev x = some (.pointer (some ⟨g, k, none⟩))) (ht : aggSize P t = some m) (hm : cs.length = m) (hc : ∀ w, S w → w.rangeAt g k cs) : Yld P n env S o (.agg cs.toArray) := fun a r w hS => by
  unfold execOp
  simp [ho, r.eval hx, Instr.loadAt, Instr.sureAddr, run_loadVar_agg ht hm (hc w hS)]
omit [Dfs] in
theorem cell_of {w : World} {H : Heap} {g i k ty : Nat} {cs : List Value} {v : Value} (h : Hp w H) (hi : H[i]? = some (some g, Cl cs ty)) (hv : cs[k]? = some v) : w.cell? ⟨g, k, none⟩ = some v := by
  rw [cell_of_row w g k cs.toArray ty (0, 0) (h.at hi)]; simpa using hv
omit [Dfs] in
theorem range_of {w : World} {H : Heap} {g i k m ty : Nat} {cs : List Value} (h : Hp w H) (hi : H[i]? = some (some g, Cl cs ty)) : w.rangeAt g k ((cs.drop k).take m) := fun j v hj => by
  refine cell_of h hi ?_
  rw [List.getElem?_take] at hj
  split at hj
  · rw [List.getElem?_drop] at hj; exact hj
  · cases hj
omit [Dfs] in
theorem range_all {w : World} {H : Heap} {g i ty : Nat} {cs : List Value} (h : Hp w H) (hi : H[i]? = some (some g, Cl cs ty)) : w.rangeAt g 0 cs := fun j v hj => by
  refine cell_of h hi ?_
  simpa using hj
theorem y_load {t g k i ty : Nat} {x : Operand} {cs : List Value} {H : Heap} {v : Value} (ho : o.op = .load t x) (hx : env.ev x = some (.pointer (some ⟨g, k, none⟩))) (ht : plainB P t = true) (h : ∀ w, S w → Hp w H) (hi : H[i]? = some (some g, Cl cs ty)) (hv : cs[k]? = some v) : Yld P n env S o v :=
  y_loadc ho hx ht fun w hS => cell_of (h w hS) hi hv
theorem y_loadw {t g m i ty : Nat} {x : Operand} {cs : List Value} {H : Heap} (ho : o.op = .load t x) (hx : env.ev x = some (.pointer (some ⟨g, 0, none⟩))) (ht : aggSize P t = some m) (h : ∀ w, S w → Hp w H) (hi : H[i]? = some (some g, Cl cs ty)) (hl : cs.length = m) : Yld P n env S o (.agg cs.toArray) :=
  y_loadr ho hx ht hl fun w hS => range_all (h w hS) hi
theorem y_loadm {t g k m i ty : Nat} {x : Operand} {cs ds : List Value} {H : Heap} (ho : o.op = .load t x) (hx : env.ev x = some (.pointer (some ⟨g, k, none⟩))) (ht : aggSize P t = some m) (h : ∀ w, S w → Hp w H) (hi : H[i]? = some (some g, Cl cs ty)) (hd : (cs.drop k).take m = ds) (hl : ds.length = m) : Yld P n env S o (.agg ds.toArray) :=
  y_loadr ho hx ht hl fun w hS => by rw [← hd]; exact range_of (h w hS) hi
end
section
variable [Dfs] {P : Program} {n : Nat} {env : Env} {w : World} {o : Oper} {K : Env → World → Prop} {H : Heap}
theorem a_store_vs {t g k i ty : Nat} {x y : Operand} {u : Value} {vs cs : List Value} (ho : o.op = .store t x y) (hd : o.dst = none) (hx : env.ev x = some (.pointer (some ⟨g, k, none⟩))) (hy : env.ev y = some u)
    (hu : u.cells.toList = vs) (ht : (P.info? t).map (·.size) = some vs.length) (h1 : ∀ v ∈ vs, v.oneCell' = true) (h : Hp w H) (hi : H[i]? = some (some g, Cl cs ty)) (hfit : k + vs.length ≤ cs.length)
    (hk : ∀ w', Hp w' (H.set i (some g, Cl (cs.take k ++ vs ++ cs.drop (k + vs.length)) ty)) → Fr [g] w w' → w'.heap.size = w.heap.size → K env w') : Act1 P n env w o K := by
  have hg := h.at hi
  have hst := run_storeCells_at P g k ty vs 0 cs.toArray w hg (by simpa using hfit) h1
  simp only [Nat.add_zero] at hst
  have hsz : u.cells.size = vs.length := by rw [← hu]; simp
  cases hq : P.info? t with
  | none => simp [hq] at ht
  | some inf =>
    have hs : inf.size = vs.length := by simpa [hq] using ht
    refine a_runs hd (w' := w.setRow g (cs.take k ++ vs ++ cs.drop (k + vs.length)).toArray) (fun a r => ?_) (hk _ (h.setAt hi (Fr.setRow w g _) (setRow_heap w g _ _ ty (0, 0) hg)) (Fr.setRow w g _) (by simp))
    unfold execOp
    simp [ho, r.eval hx, r.eval hy, Instr.storeAt, Instr.sureAddr, storeVar, sizeOf, typeInfo, hq, hs, hsz, hu]
    rw [hst]
    simp
omit [Dfs] in
theorem set_eq_splice {α : Type} (cs : List α) (k : Nat) (v : α) (hk : k < cs.length) : cs.take k ++ [v] ++ cs.drop (k + 1) = cs.set k v := by
  rw [List.set_eq_take_append_cons_drop, if_pos hk]; simp
theorem a_store {t g k i ty : Nat} {x y : Operand} {u : Value} {cs : List Value} (ho : o.op = .store t x y) (hd : o.dst = none) (hx : env.ev x = some (.pointer (some ⟨g, k, none⟩))) (hy : env.ev y = some u)
    (hu : u.cells = #[u]) (ht : (P.info? t).map (·.size) = some 1) (h1 : u.oneCell' = true) (h : Hp w H) (hi : H[i]? = some (some g, Cl cs ty)) (hfit : k < cs.length)
    (hk : ∀ w', Hp w' (H.set i (some g, Cl (cs.set k u) ty)) → Fr [g] w w' → w'.heap.size = w.heap.size → K env w') : Act1 P n env w o K :=
  a_store_vs (vs := [u]) ho hd hx hy (by simp [hu]) (by simpa using ht) (by simpa using h1) h hi (by simp; omega) fun w' hp hf => by
    rw [List.length_singleton, set_eq_splice cs k u hfit] at hp
    exact hk w' hp hf
theorem a_storew {t g i ty : Nat} {x y : Operand} {us cs : List Value} (ho : o.op = .store t x y) (hd : o.dst = none) (hx : env.ev x = some (.pointer (some ⟨g, 0, none⟩))) (hy : env.ev y = some (.agg us.toArray))
    {m : Nat} (ht : (P.info? t).map (·.size) = some m) (hm : us.length = m) (h1 : ∀ v ∈ us, v.oneCell' = true) (h : Hp w H) (hi : H[i]? = some (some g, Cl cs ty)) (hl : cs.length = us.length)
    (hk : ∀ w', Hp w' (H.set i (some g, Cl us ty)) → Fr [g] w w' → w'.heap.size = w.heap.size → K env w') : Act1 P n env w o K :=
  a_store_vs (vs := us) ho hd hx hy rfl (by rw [hm]; exact ht) h1 h hi (by omega) fun w' hp hf => by
    rw [List.take_zero, List.nil_append, Nat.zero_add, List.drop_of_length_le (by omega), List.append_nil] at hp
    exact hk w' hp hf
theorem a_storem {t g k i ty : Nat} {x y : Operand} {us cs : List Value} (ho : o.op = .store t x y) (hd : o.dst = none) (hx : env.ev x = some (.pointer (some ⟨g, k, none⟩))) (hy : env.ev y = some (.agg us.toArray))
    {m : Nat} (ht : (P.info? t).map (·.size) = some m) (hm : us.length = m) (h1 : ∀ v ∈ us, v.oneCell' = true) (h : Hp w H) (hi : H[i]? = some (some g, Cl cs ty)) (hl : k + us.length ≤ cs.length)
    (hk : ∀ w', Hp w' (H.set i (some g, Cl (cs.take k ++ us ++ cs.drop (k + us.length)) ty)) → Fr [g] w w' → w'.heap.size = w.heap.size → K env w') : Act1 P n env w o K :=
  a_store_vs (vs := us) ho hd hx hy rfl (by rw [hm]; exact ht) h1 h hi hl hk
theorem a_alloc {t : Nat} {cs : List Value} (ho : o.op = .alloc t) {d : Nat} (hd : o.dst = some d) (hn : Nat.blt d n = true) (hz : zeroCells P t = some cs) (h : Hp w H)
    (hk : ∀ g w', Hp w' (H ++ [(some g, Cl cs t)]) → Fr [] w w' → w.heap.size ≤ g → K ((d, (.pointer (some ⟨g, 0, none⟩))) :: env) w') : Act1 P n env w o K := by
  unfold zeroCells at hz
  cases hq : P.info? t with
  | none => simp [hq] at hz
  | some inf =>
    cases hzz : inf.zero with
    | none => simp [hq, hzz] at hz
    | some z =>
      have hz' : z.cells = cs.toArray := by simp [hq, hzz] at hz; rw [← hz]
      refine a_run hd hn (v := .pointer (some ⟨w.heap.size, 0, none⟩)) (w' := w.alloc (.cells cs.toArray t)) (fun a r => ?_) (hk _ _ (h.alloc _) (Fr.alloc w _) (Nat.le_refl _))
      unfold execOp
      simp [ho, Instr.alloc, zeroValue, typeInfo, hq, hzz, newVar, newRow, hz']
theorem a_box {t : Nat} {x : Operand} {us : List Value} (ho : o.op = .box t x) {d : Nat} (hd : o.dst = some d) (hn : Nat.blt d n = true) (hx : env.ev x = some (.agg us.toArray)) (h : Hp w H)
    (hk : ∀ g w', Hp w' (H ++ [(some g, Cl us t)]) → Fr [] w w' → w.heap.size ≤ g → K ((d, (.pointer (some ⟨g, 0, none⟩))) :: env) w') : Act1 P n env w o K := by
  refine a_run hd hn (v := .pointer (some ⟨w.heap.size, 0, none⟩)) (w' := w.alloc (.cells us.toArray t)) (fun a r => ?_) (hk _ _ (h.alloc _) (Fr.alloc w _) (Nat.le_refl _))
  unfold execOp
  simp [ho, Instr.box, newVar, newRow, r.eval hx, Value.cells]
theorem a_box1 {t : Nat} {x : Operand} {u : Value} (ho : o.op = .box t x) {d : Nat} (hd : o.dst = some d) (hn : Nat.blt d n = true) (hx : env.ev x = some u) (hu : u.cells = #[u]) (h : Hp w H)
    (hk : ∀ g w', Hp w' (H ++ [(some g, Cl [u] t)]) → Fr [] w w' → w.heap.size ≤ g → K ((d, (.pointer (some ⟨g, 0, none⟩))) :: env) w') : Act1 P n env w o K := by
  refine a_run hd hn (v := .pointer (some ⟨w.heap.size, 0, none⟩)) (w' := w.alloc (.cells #[u] t)) (fun a r => ?_) (hk _ _ (h.alloc _) (Fr.alloc w _) (Nat.le_refl _))
  unfold execOp
  simp [ho, Instr.box, newVar, newRow, r.eval hx, hu]
end
end Go.Proofs.YtdckemiebnfjcaaGreatDoor
end

section
namespace Go.Proofs.YtdckemiebnfjcaaGreatDoor
open Go.RowKit
def elemSize (P : Program) (t : Nat) : Option (Nat × Nat) := match P.underlying t with
  | some (.slice e) => (P.info? e).map fun i => (e, i.size)
  | _ => none
def arrSize (P : Program) (t : Nat) : Option (Nat × Nat) := match P.underlying t with
  | some (.array m e) => (P.info? e).map fun i => (m, i.size)
  | _ => none
theorem elemSize_spec {P : Program} {t e m : Nat} (h : elemSize P t = some (e, m)) : P.underlying t = some (.slice e) ∧ (P.info? e).map (·.size) = some m := by
  unfold elemSize at h
  split at h
  · rename_i e' hu
    cases hq : P.info? e' with
    | none => simp [hq] at h
    | some i =>
      simp [hq] at h
      obtain ⟨rfl, rfl⟩ := h
      exact ⟨hu, by simp [hq]⟩
  · cases h
theorem run_sizeOf {P : Program} {e m : Nat} (h : (P.info? e).map (·.size) = some m) (w : World) : (sizeOf e).run P w = .ok m w := by
  cases hq : P.info? e with
  | none => simp [hq] at h
  | some i => simp [hq] at h; simp [sizeOf, typeInfo, hq, h]
theorem arrSize_spec {P : Program} {t k m : Nat} (h : arrSize P t = some (k, m)) : ∃ e, P.underlying t = some (.array k e) ∧ (P.info? e).map (·.size) = some m := by
  unfold arrSize at h
  split at h
  · rename_i k' e' hu
    cases hq : P.info? e' with
    | none => simp [hq] at h
    | some i =>
      simp [hq] at h
      obtain ⟨rfl, rfl⟩ := h
      exact ⟨e', hu, by simp [hq]⟩
  · cases h
section
variable [Dfs] {P : Program} {n : Nat} {env : Env} {S : World → Prop} {o : Oper}
theorem y_ixs {t : Nat} {x ix : Operand} {p : List UInt8} {k : IntKind} {q : Int} {b : UInt8} (ho : o.op = .index t x ix) (hx : env.ev x = some (sv p)) (hi : env.ev ix = some (.int k q)) (ht : P.underlying t = some .string) (h0 : 0 ≤ q) (hb : p[q.toNat]? = some b) : Yld P n env S o (.int .u8 b.toNat) := fun a r w _ => by
  have hg : (⟨p.toArray⟩ : ByteArray)[q.toNat]? = some b := by
    have hl : q.toNat < p.length := (List.getElem?_eq_some_iff.1 hb).1
    have hl' : q.toNat < (⟨p.toArray⟩ : ByteArray).size := by simpa [ByteArray.size] using hl
    rw [getElem?_pos (⟨p.toArray⟩ : ByteArray) q.toNat hl']
    have := (List.getElem?_eq_some_iff.1 hb).2
    simp [← this]
    rfl
  unfold execOp
  simp [ho, r.eval hx, r.eval hi, Instr.index, asIntOf, run_underlying ht, h0, hg]
theorem y_ixa {t e m g b l c : Nat} {x ix : Operand} {k : IntKind} {q : Int} (ho : o.op = .indexAddr t x ix) (hx : env.ev x = some (.slice (some ⟨g, b, none⟩) l c)) (hi : env.ev ix = some (.int k q)) (ht : elemSize P t = some (e, m)) (h0 : 0 ≤ q) (h1 : q < l) :
    Yld P n env S o (.pointer (some ⟨g, b + q.toNat * m, none⟩)) := fun a r w _ => by
  obtain ⟨hu, hs⟩ := elemSize_spec ht
  unfold execOp
  simp [ho, r.eval hx, r.eval hi, Instr.indexAt, asIntOf, run_underlying hu, h0, h1, run_sizeOf hs, Addr.add_mid]
theorem y_ixr {t m g b l : Nat} {x ix : Operand} {k : IntKind} {q : Int} (ho : o.op = .indexAddr t x ix) (hx : env.ev x = some (.pointer (some ⟨g, b, none⟩))) (hi : env.ev ix = some (.int k q)) (ht : arrSize P t = some (l, m)) (h0 : 0 ≤ q) (h1 : q < l) :
    Yld P n env S o (.pointer (some ⟨g, b + q.toNat * m, none⟩)) := fun a r w _ => by
  obtain ⟨e, hu, hs⟩ := arrSize_spec ht
  unfold execOp
  simp [ho, r.eval hx, r.eval hi, Instr.indexAt, asIntOf, run_underlying hu, h0, h1, run_sizeOf hs, Addr.add_mid, Instr.sureAddr]
theorem y_ixrN {t m g b l j : Nat} {x ix : Operand} {k : IntKind} (ho : o.op = .indexAddr t x ix) (hx : env.ev x = some (.pointer (some ⟨g, b, none⟩))) (hi : env.ev ix = some (.int k (j : Int))) (ht : arrSize P t = some (l, m)) (h1 : j < l) :
    Yld P n env S o (.pointer (some ⟨g, b + j * m, none⟩)) := by
  have := y_ixr (P := P) (n := n) (S := S) ho hx hi ht (by omega) (by omega)
  simpa using this
def cutLo (env : Env) : Option Operand → Option Int
  | none => some 0
  | some x => match env.ev x with
    | some (.int _ q) => some q
    | _ => none
def cutHi (env : Env) (l : Nat) : Option Operand → Option Int
  | none => some l
  | some x => match env.ev x with
    | some (.int _ q) => some q
    | _ => none
theorem run_sliceBounds {isS : Bool} {l c : Nat} {lo hi : Option Operand} {p q : Int} {a : Act} (r : Rep n env a) (hlo : cutLo env lo = some p) (hhi : cutHi env l hi = some q) (h0 : 0 ≤ p) (h1 : p ≤ q) (h2 : q ≤ c) (hlc : hi = none → l ≤ c) (w : World) :
    (Instr.sliceBounds isS l c (lo.map a.eval) (hi.map a.eval) none).run P w = .ok (p.toNat, q.toNat, c) w := by
  have hq0 : 0 ≤ q := by omega
  cases hi with
  | none =>
    simp only [cutHi, Option.some.injEq] at hhi
    subst hhi
    cases lo with
    | none =>
      simp only [cutLo, Option.some.injEq] at hlo
      subst hlo
      simp [Instr.sliceBounds]
    | some x =>
      unfold cutLo at hlo
      split at hlo
      · rename_i heq; cases heq
      · rename_i y heq
        injection heq with heq
        subst heq
        split at hlo
        · rename_i kk qq he
          injection hlo with hlo
          subst hlo
          simp [Instr.sliceBounds, Instr.sliceBound, r.eval he, asIntOf, h0, h1]
        · cases hlo
  | some z =>
    unfold cutHi at hhi
    split at hhi
    · rename_i heq; cases heq
    · rename_i y heq
      injection heq with heq
      subst heq
      split at hhi
      · rename_i kk qq he
        injection hhi with hhi
        subst hhi
        have h1n : p ≤ (qq.toNat : Int) := by omega
        cases lo with
        | none =>
          simp only [cutLo, Option.some.injEq] at hlo
          subst hlo
          simp [Instr.sliceBounds, Instr.sliceBound, r.eval he, asIntOf, hq0, h2]
        | some x =>
          unfold cutLo at hlo
          split at hlo
          · rename_i heq'; cases heq'
          · rename_i y' heq'
            injection heq' with heq'
            subst heq'
            split at hlo
            · rename_i k2 q2 he2
              injection hlo with hlo
              subst hlo
              simp [Instr.sliceBounds, Instr.sliceBound, r.eval he, r.eval he2, asIntOf, hq0, h2, h0]
              omega
            · cases hlo
      · cases hhi
theorem y_cuts {t : Nat} {x : Operand} {lo hi : Option Operand} {s : List UInt8} {p q : Int} (ho : o.op = .slice t x lo hi none) (hx : env.ev x = some (sv s)) (ht : P.underlying t = some .string) (hlo : cutLo env lo = some p) (hhi : cutHi env s.length hi = some q)
    (h0 : 0 ≤ p) (h1 : p ≤ q) (h2 : q ≤ s.length) : Yld P n env S o (sv ((s.take q.toNat).drop p.toNat)) := fun a r w _ => by
  have hb := run_sliceBounds (P := P) (isS := false) r hlo hhi h0 h1 h2 (fun _ => Nat.le_refl _) w
  have hsz : (⟨s.toArray⟩ : ByteArray).size = s.length := by simp [ByteArray.size]
  have e : (⟨s.toArray⟩ : ByteArray).extract p.toNat q.toNat = ⟨((s.take q.toNat).drop p.toNat).toArray⟩ := by
    apply ByteArray.ext
    rw [ByteArray.data_extract]
    simp [List.extract_toArray, List.drop_take]
  unfold execOp
  simp [ho, r.eval hx, Instr.sliceAt, run_underlying ht, Instr.slice, hsz, hb, e]
theorem y_cuta {t m g b l : Nat} {x : Operand} {lo hi : Option Operand} {p q : Int} (ho : o.op = .slice t x lo hi none) (hx : env.ev x = some (.pointer (some ⟨g, b, none⟩))) (ht : arrSize P t = some (l, m)) (hlo : cutLo env lo = some p) (hhi : cutHi env l hi = some q)
    (h0 : 0 ≤ p) (h1 : p ≤ q) (h2 : q ≤ l) (h3 : p < l) : Yld P n env S o (.slice (some ⟨g, b + p.toNat * m, none⟩) (q.toNat - p.toNat) (l - p.toNat)) := fun a r w _ => by
  obtain ⟨e, hu, hs⟩ := arrSize_spec ht
  have hb := run_sliceBounds (P := P) (isS := false) r hlo hhi h0 h1 h2 (fun _ => Nat.le_refl _) w
  have hne : ¬ l = p.toNat := by omega
  unfold execOp
  simp [ho, r.eval hx, Instr.sliceAt, run_underlying hu, hb, run_sizeOf hs, Instr.sureAddr, hne, Addr.add_mid]
theorem y_cutl {t e m l c : Nat} {A : Option Addr} {x : Operand} {lo hi : Option Operand} {p q : Int} (ho : o.op = .slice t x lo hi none) (hx : env.ev x = some (.slice A l c)) (ht : elemSize P t = some (e, m)) (hlo : cutLo env lo = some p) (hhi : cutHi env l hi = some q)
    (h0 : 0 ≤ p) (h1 : p ≤ q) (h2 : q ≤ c) (hlc : l ≤ c) : Yld P n env S o (.slice (if c = p.toNat then A else A.map (·.add (p.toNat * m))) (q.toNat - p.toNat) (c - p.toNat)) := fun a r w _ => by
  obtain ⟨hu, hs⟩ := elemSize_spec ht
  have hb := run_sliceBounds (P := P) (isS := true) r hlo hhi h0 h1 h2 (fun _ => hlc) w
  unfold execOp
  simp [ho, r.eval hx, Instr.sliceAt, Instr.slice, run_underlying hu, hb, run_sizeOf hs]
end
section
variable [Dfs] {P : Program} {n : Nat} {env : Env} {S : World → Prop} {o : Oper}
theorem y_cutaN {t m g b l i j : Nat} {x : Operand} {lo hi : Option Operand} (ho : o.op = .slice t x lo hi none) (hx : env.ev x = some (.pointer (some ⟨g, b, none⟩))) (ht : arrSize P t = some (l, m)) (hlo : cutLo env lo = some (i : Int)) (hhi : cutHi env l hi = some (j : Int))
    (h1 : i ≤ j) (h2 : j ≤ l) (h3 : i < l) : Yld P n env S o (.slice (some ⟨g, b + i * m, none⟩) (j - i) (l - i)) := by
  have := y_cuta (P := P) (n := n) (S := S) ho hx ht hlo hhi (by omega) (by omega) (by omega) (by omega)
  simpa using this
end
def fillL (pls : List (Nat × Nat)) : List Value → List (Nat × Value) → Option (List Value)
  | cs, [] => some cs
  | cs, (i, v) :: r => match pls[i]? with
    | some (off, sz) => bif Nat.beq v.cells.toList.length sz && Nat.ble (off + sz) cs.length then fillL pls (cs.take off ++ (v.cells.toList ++ cs.drop (off + sz))) r else none
    | none => none
def placesOf (P : Program) (t : Nat) : Option (List (Nat × Nat)) := match P.underlying t with
  | some (.struct fields) => fields.toList.mapM fun f => (P.info? f.type).map fun i => (f.offset, i.size)
  | _ => none
theorem foldl_set_zipIdx : ∀ (u : List Value) (off j : Nat) (cs : Array Value), off + j + u.length ≤ cs.size →
    (u.zipIdx j).foldl (fun cs (cj : Value × Nat) => cs.setIfInBounds (off + cj.2) cj.1) cs = (cs.toList.take (off + j) ++ (u ++ cs.toList.drop (off + j + u.length))).toArray
  | [], off, j, cs, _ => by simp
  | v :: u, off, j, cs, h => by
    simp only [List.length_cons] at h
    rw [List.zipIdx_cons, List.foldl_cons, foldl_set_zipIdx u off (j + 1) _ (by simp; omega)]
    have e := list_seg_step cs.toList (off + j) v u (by simp; omega)
    simp only [Array.toList_setIfInBounds, List.length_cons, ← Nat.add_assoc]
    simpa [Nat.add_assoc] using e
theorem fill_of_fillL (pls : List (Nat × Nat)) : ∀ (parts : List (Nat × Value)) (cs out : List Value), fillL pls cs parts = some out → Instr.fill (pls.toArray[·]?) cs.toArray parts = some out.toArray
  | [], cs, out, h => by simp [fillL] at h; simp [Instr.fill, h]
  | (i, v) :: r, cs, out, h => by
    unfold fillL at h
    split at h
    · rename_i off sz hp
      cases hb : (Nat.beq v.cells.toList.length sz && Nat.ble (off + sz) cs.length) with
      | false => rw [hb] at h; cases h
      | true =>
        rw [hb] at h
        simp only [cond_true] at h
        simp only [Bool.and_eq_true, Nat.ble_eq] at hb
        have h1 : v.cells.toList.length = sz := Nat.eq_of_beq_eq_true hb.1
        have hsz : v.cells.size = sz := by rw [← h1]; simp
        have key := foldl_set_zipIdx v.cells.toList off 0 cs.toArray (by simp; omega)
        simp only [Nat.add_zero] at key
        unfold Instr.fill
        have hp' : pls.toArray[i]? = some (off, sz) := by simpa using hp
        simp only [hp']
        rw [if_neg (by simp [hsz]; omega)]
        have key2 : (v.cells.zipIdx.foldl (fun cs (cj : Value × Nat) => cs.setIfInBounds (off + cj.2) cj.1) cs.toArray) = (cs.take off ++ (v.cells.toList ++ cs.drop (off + sz))).toArray := by
          rw [← Array.foldl_toList, Array.toList_zipIdx, key]
          simp [hsz]
        have key3 : v.cells.zipIdx.foldl (fun cs x => match x with | (c, j) => cs.setIfInBounds (off + j) c) cs.toArray = (cs.take off ++ (v.cells.toList ++ cs.drop (off + sz))).toArray := key2
        rw [key3]
        exact fill_of_fillL pls r _ out h
    · cases h
section
variable [Dfs] {P : Program} {n : Nat} {env : Env} {S : World → Prop} {o : Oper}
theorem y_build {t : Nat} {ps : List (Nat × Operand)} {vs zs cells : List Value} {pls : List (Nat × Nat)} (ho : o.op = .build t ps.toArray) (hx : env.evs (ps.map (·.2)) = some vs) (hz : zeroCells P t = some zs) (hp : placesOf P t = some pls)
    (hf : fillL pls zs ((ps.map (·.1)).zip vs) = some cells) : Yld P n env S o (.agg cells.toArray) := fun a r w _ => by
  have e : (ps.toArray.map fun (i, x) => (i, a.eval x)).toList = (ps.map (·.1)).zip vs := by
    rw [← r.evals hx]
    simp only [List.map_toArray, List.map_map]
    clear ho hx hf
    induction ps with
    | nil => rfl
    | cons p ps ih => obtain ⟨i, x⟩ := p; simpa using ih
  unfold placesOf at hp
  split at hp
  · rename_i fields hu
    unfold zeroCells at hz
    cases hq : P.info? t with
    | none => simp [hq] at hz
    | some it =>
      cases hzz : it.zero with
      | none => simp [hq, hzz] at hz
      | some z =>
        have hz' : z.cells = zs.toArray := by simp [hq, hzz] at hz; rw [← hz]
        have hb : P.built t ((ps.map (·.1)).zip vs) = some cells.toArray := by
          unfold Program.built
          simp only [hq, hu, hzz, hp, hz']
          exact fill_of_fillL pls _ zs cells hf
        have := run_build (P := P) w t (ps.toArray.map fun (i, x) => (i, a.eval x)) cells.toArray (by rw [e]; exact hb)
        unfold execOp
        simp only [ho]
        simp only [Sem.run_bind, this, Result.andThen_ok]
        rfl
  · cases hp
theorem y_field {t f ft off : Nat} {x : Operand} {us : List Value} {v : Value} (ho : o.op = .field t x f) (hx : env.ev x = some (.agg us.toArray)) (hf : fieldOff P t f = some off) (hft : (match P.underlying t with | some (.struct fs) => (fs[f]?).map (·.type) | _ => none) = some ft) (hp : plainB P ft = true) (hv : us[off]? = some v) : Yld P n env S o v := fun a r w _ => by
  unfold fieldOff at hf
  split at hf <;> try (cases hf; done)
  rename_i fs hu
  simp only [hu] at hft
  split at hf <;> try (cases hf; done)
  rename_i fd hfd
  simp only [hfd, Option.map_some, Option.some.injEq] at hft
  split at hf <;> try (cases hf; done)
  rename_i i hi
  split at hf
  · cases hf
  · injection hf with hf
    subst hf
    subst hft
    have hA : (isAgg fd.type).run P w = .ok false w := by
      unfold plainB at hp
      cases hu' : P.underlying fd.type with
      | none => simp [hu'] at hp
      | some d =>
        unfold isAgg
        simp only [Sem.run_bind, run_underlying hu', Result.andThen_ok]
        cases d <;> simp [hu'] at hp <;> rfl
    unfold execOp
    simp [ho, r.eval hx, Instr.field, run_underlying hu, hfd, asAgg, part, hA, hv]
end
end Go.Proofs.YtdckemiebnfjcaaGreatDoor
end

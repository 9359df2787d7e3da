/- Plain: lists that rise, insertion, adjacent duplicates. -/
import Derived.Test.YtdckemiebnfjcaaGreatDoorSi
import Derived.Maps.RangeRun
import Derived.Test.YtdckemiebnfjcaaGreatDoorSc
import Derived.Test.YtdckemiebnfjcaaGreatDoorZ9
import Derived.Test.YtdckemiebnfjcaaGreatDoorZ7
import Derived.Test.YtdckemiebnfjcaaGreatDoorPl
section
set_option linter.unusedVariables false
set_option linter.unusedSimpArgs false
namespace Go.Proofs.YtdckemiebnfjcaaGreatDoor
open Go.RowKit
open Go.ChangeMaps (setBlock)
section
variable {α β : Type} {enc : α → Value} {ev : β → Value} {es : Array MapEntry} {seen : Array Nat} {left ms : List (α × β)} {clock : Nat}
def Left (enc : α → Value) (ev : β → Value) (es : Array MapEntry) (seen : Array Nat) (left : List (α × β)) : Prop := (leftOf es seen).toList.map (fun e => (e.key, e.val)) = left.map (fun p => (enc p.1, ev p.2))
def Ent (enc : α → Value) (ev : β → Value) (es : Array MapEntry) (seen : Array Nat) (p : α × β) : Prop := ∃ (s0 : Array Nat) (e : MapEntry), seen = s0.push e.born ∧ e ∈ es.toList ∧ e.key = enc p.1 ∧ e.val = ev p.2
theorem Left.all (hM : MOk enc ev es clock ms) : Left enc ev es #[] ms := by
  unfold Left leftOf
  rw [← hM.eq, Array.toList_filter, List.filter_eq_self.2 (by simp)]
theorem erase_perm {γ : Type} : ∀ (l : List γ) (j : Nat) (h : j < l.length), (l[j] :: l.eraseIdx j).Perm l
  | a :: l, 0, _ => by simp
  | a :: l, j + 1, h => by
    have := erase_perm l j (by simpa using h)
    simp only [List.getElem_cons_succ, List.eraseIdx_cons_succ]
    exact (List.Perm.swap _ _ _).trans (this.cons a)
theorem filter_born (e : MapEntry) : ∀ (L : List MapEntry) (j : Nat), (L.map (·.born)).Nodup → L[j]? = some e → L.filter (fun x => !(x.born == e.born)) = L.eraseIdx j
  | [], j, _, h => by simp at h
  | x :: L, 0, hn, h => by
    simp only [List.getElem?_cons_zero, Option.some.injEq] at h
    subst h
    have hn' : x.born ∉ L.map (·.born) ∧ (L.map (·.born)).Nodup := List.nodup_cons.1 hn
    simp only [List.eraseIdx_cons_zero, List.filter_cons, beq_self_eq_true, Bool.not_true, Bool.false_eq_true, if_false]
    rw [List.filter_eq_self]
    intro y hy
    simp only [Bool.not_eq_true', beq_eq_false_iff_ne]
    exact fun he => hn'.1 (by rw [← he]; exact List.mem_map.2 ⟨y, hy, rfl⟩)
  | x :: L, j + 1, hn, h => by
    have hn' : x.born ∉ L.map (·.born) ∧ (L.map (·.born)).Nodup := List.nodup_cons.1 hn
    have hL : L[j]? = some e := by simpa using h
    have hx : x.born ≠ e.born := fun he => hn'.1 (by rw [he]; exact List.mem_map.2 ⟨e, List.mem_of_getElem? hL, rfl⟩)
    simp only [List.eraseIdx_cons_succ, List.filter_cons]
    rw [if_pos (by simpa using hx), filter_born e L j hn'.2 hL]
theorem Left.step (hM : MOk enc ev es clock ms) (hl : Left enc ev es seen left) {e : MapEntry} (he : e ∈ (leftOf es seen).toList) :
    ∃ p left', (p :: left').Perm left ∧ Left enc ev es (seen.push e.born) left' ∧ Ent enc ev es (seen.push e.born) p := by
  obtain ⟨j, hj, hje⟩ := List.getElem_of_mem he
  have hje' : (leftOf es seen).toList[j]? = some e := by rw [List.getElem?_eq_getElem hj, hje]
  have hlen : (leftOf es seen).toList.length = left.length := by have := congrArg List.length hl; simpa using this
  have hjl : j < left.length := by omega
  have hp := congrArg (fun l => l[j]?) hl
  simp only [List.getElem?_map, hje', Option.map_some, List.getElem?_eq_getElem hjl, Option.some.injEq, Prod.mk.injEq] at hp
  have hes : e ∈ es.toList := by unfold leftOf at he; simp at he ⊢; exact he.1
  refine ⟨left[j], left.eraseIdx j, erase_perm left j hjl, ?_, ⟨seen, e, rfl, hes, hp.1, hp.2⟩⟩
  have e1 : (leftOf es (seen.push e.born)).toList = (leftOf es seen).toList.filter (fun x => !(x.born == e.born)) := by
    unfold leftOf
    simp only [Array.toList_filter, List.filter_filter]
    apply List.filter_congr
    intro x _
    by_cases h : x.born = e.born
    · simp [h]
    · simp [h]
  have hn : ((leftOf es seen).toList.map (·.born)).Nodup := by
    unfold leftOf
    rw [Array.toList_filter]
    exact hM.st.2.1.sublist (List.Sublist.map _ List.filter_sublist)
  unfold Left at hl ⊢
  rw [e1, filter_born e _ j hn hje', Go.ChangeMaps.map_eraseIdx, Go.ChangeMaps.map_eraseIdx, hl]
end
section
variable {α β : Type} {enc : α → Value} {ev : β → Value} {es : Array MapEntry} {seen : Array Nat} {left ms : List (α × β)} {clock : Nat}
variable [Dfs] {P : Program} {n : Nat} {env : Env} {w : World} {o : Oper} {K : Env → World → Prop} {H : Heap}
theorem a_rangeM {t k e g i d : Nat} {x : Operand} (ho : o.op = .range t x) (hd : o.dst = some d) (hn : Nat.blt d n = true) (hx : env.ev x = some (.map (some g))) (ht : P.underlying t = some (.map k e)) (h : Hp w H) (hi : H[i]? = some (some g, .map es clock))
    (hK : ∀ r w', Hp w' (H ++ [(some r, .mapIter (some g) clock #[] clock)]) → Fr [] w w' → w.heap.size ≤ r → K ((d, .pointer (some ⟨r, 0, none⟩)) :: env) w') : Act1 P n env w o K := by
  refine a_run hd hn (fun a r => ?_) (hK w.heap.size (w.alloc (.mapIter (some g) clock #[] clock)) (h.alloc _) (Fr.alloc w _) (Nat.le_refl _))
  have := run_range_map (P := P) w t k e g es clock ht (h.at hi)
  unfold execOp
  simp only [ho, r.eval hx, Sem.run_bind, this, Result.andThen_ok]
  rfl
omit [Dfs] in
theorem Fr.setBlock (w : World) (g : Nat) (o : Obj) : Fr [g] w (setBlock w g o) := ⟨rfl, rfl, rfl, by simp [Go.ChangeMaps.setBlock], fun k _ hk => by
  show (w.heap.setIfInBounds g o)[k]? = _
  rw [Array.getElem?_setIfInBounds_ne (fun e => hk (by simp [e]))], Nat.le_refl _⟩
omit [Dfs] in
theorem setBlock_at {w : World} {g : Nat} {o : Obj} (h : g < w.heap.size) : (setBlock w g o).heap[g]? = some o := by
  show (w.heap.setIfInBounds g o)[g]? = _
  rw [Array.getElem?_setIfInBounds_self_of_lt h]
theorem a_nextM {r g ir im d : Nat} {x : Operand} (ho : o.op = .next x false) (hd : o.dst = some d) (hn : Nat.blt d n = true) (hx : env.ev x = some (.pointer (some ⟨r, 0, none⟩))) (h : Hp w H) (hir : H[ir]? = some (some r, .mapIter (some g) clock seen clock)) (him : H[im]? = some (some g, .map es clock)) (hM : MOk enc ev es clock ms) (hl : Left enc ev es seen left)
    (h0 : left = [] → K ((d, .tuple #[.bool false]) :: env) w)
    (h1 : ∀ p left' seen' w', (p :: left').Perm left → Left enc ev es seen' left' → Ent enc ev es seen' p → Hp w' (H.set ir (some r, .mapIter (some g) clock seen' clock)) → Fr [r] w w' → K ((d, .tuple #[.bool true, enc p.1, ev p.2]) :: env) w') : Act1 P n env w o K := by
  rcases run_next_at (P := P) w o.type r g clock clock seen es clock (h.at hir) (h.at him) hM.st.1 (Nat.le_refl _) with ⟨hz, hr⟩ | ⟨e, he, w1, hw1, hr⟩
  · have hl0 : left = [] := by
      have := congrArg List.length hl
      simp only [List.length_map, Array.length_toList, hz] at this
      exact List.eq_nil_of_length_eq_zero this.symm
    refine a_run hd hn (fun a q => ?_) (h0 hl0)
    unfold execOp
    simp only [ho, q.eval hx, Sem.run_bind, hr, Result.andThen_ok]
    rfl
  · obtain ⟨p, left', hp, hl', hent⟩ := Left.step hM hl he
    have hpv : e.key = enc p.1 ∧ e.val = ev p.2 := by
      obtain ⟨s0, e', h2, h3, h4, h5⟩ := hent
      have hb : e'.born = e.born := by
        have := congrArg Array.back? h2
        simpa using this.symm
      have hes : e ∈ es.toList := by unfold leftOf at he; simp at he ⊢; exact he.1
      have hf := find_born e es.toList hM.st.2.1 hes
      have hf' := find_born e' es.toList hM.st.2.1 h3
      rw [hb, hf] at hf'
      injection hf' with hf'
      subst hf'
      exact ⟨h4, h5⟩
    rw [hpv.1, hpv.2] at hr
    have hw : Fr [] w w1 := by rcases hw1 with rfl | rfl; exact Fr.refl _ _; exact Fr.drew w
    have hh := h.keep0 hw
    have hf : Fr [r] w (setBlock w1 r (.mapIter (some g) clock (seen.push e.born) clock)) := (hw.weak0 (X := [r])).step (Fr.setBlock w1 r _) (fun y hy => .inl hy)
    refine a_run hd hn (fun a q => ?_) (h1 p left' _ _ hp hl' hent (hh.setAt hir (Fr.setBlock w1 r _) (setBlock_at (hh.lt hir))) hf)
    unfold execOp
    simp only [ho, q.eval hx, Sem.run_bind, hr, Result.andThen_ok]
    rfl
end
section
variable {α β : Type} {enc : α → Value} {ev : β → Value} {es : Array MapEntry} {seen : Array Nat} {ms : List (α × β)} {clock : Nat}
variable [Dfs] {P : Program} {n : Nat} {env : Env} {S : World → Prop} {o : Oper} {H : Heap}
theorem y_entryM {r g ir im : Nat} {x : Operand} {p : α × β} (ho : o.op = .entry x) (hx : env.ev x = some (.pointer (some ⟨r, 0, none⟩))) (h : ∀ w, S w → Hp w H) (hir : H[ir]? = some (some r, .mapIter (some g) clock seen clock)) (him : H[im]? = some (some g, .map es clock)) (hM : MOk enc ev es clock ms) (he : Ent enc ev es seen p) :
    Yld P n env S o (.tuple #[enc p.1, ev p.2]) := fun a q w hS => by
  obtain ⟨s0, e, h2, h3, h4, h5⟩ := he
  subst h2
  have := run_entry_at (P := P) w r g clock s0 es clock e ((h w hS).at hir) ((h w hS).at him) h3 hM.st.2.1
  rw [h4, h5] at this
  unfold execOp
  simp only [ho, q.eval hx, Sem.run_bind, this, Result.andThen_ok]
  rfl
end
end Go.Proofs.YtdckemiebnfjcaaGreatDoor
end

section
set_option linter.unusedSimpArgs false
set_option linter.unusedVariables false
set_option maxRecDepth 20000
namespace Go.Proofs.YtdckemiebnfjcaaGreatDoor
open Go.RowKit
open Go.Shelf Go.Lib Go.Sort
theorem cmpS_eq (x y : List UInt8) : cmpS_m x y = if x < y then -1 else if y < x then 1 else 0 := by unfold cmpS_m nanS_m; simp
def itemCmp (a b : ItemM) : Int := mitems1_m a b
theorem itemCmp_neg (a b : ItemM) : itemCmp a b < 0 ↔ a.field < b.field := by
  unfold itemCmp mitems1_m; rw [cmpS_eq]
  split
  · simp [*]
  · rename_i h
    split <;> simp [h]
def sortI (l : List ItemM) : List ItemM := l.mergeSort fun x y => decide (x.field ≤ y.field)
theorem sortI_len (l : List ItemM) : (sortI l).length = l.length := List.length_mergeSort _
theorem le_iff (x y : List UInt8) : x ≤ y ↔ ¬ y < x := List.not_lt.symm
theorem sortI_sorted (l : List ItemM) : (sortI l).Pairwise (fun a b => a.field ≤ b.field) := by
  have := List.pairwise_mergeSort (le := fun (x y : ItemM) => decide (x.field ≤ y.field)) (fun a b c h1 h2 => by
    simp only [decide_eq_true_eq] at *; exact List.le_trans h1 h2) (fun a b => by
    simp only [Bool.or_eq_true, decide_eq_true_eq]; exact List.le_total _ _) l
  simpa [sortI] using this
theorem nodup_inj {l : List ItemM} (h : (l.map (·.field)).Nodup) {a b : ItemM} (ha : a ∈ l) (hb : b ∈ l) (e : a.field = b.field) : a = b := by
  induction l with
  | nil => cases ha
  | cons x l ih =>
    rw [List.map_cons, List.nodup_cons] at h
    rcases List.mem_cons.1 ha with e1 | ha'
    · rcases List.mem_cons.1 hb with e2 | hb'
      · rw [e1, e2]
      · exact absurd (List.mem_map.2 ⟨b, hb', by rw [← e, e1]⟩) h.1
    · rcases List.mem_cons.1 hb with e2 | hb'
      · exact absurd (List.mem_map.2 ⟨a, ha', by rw [e, e2]⟩) h.1
      · exact ih h.2 ha' hb'
theorem sorted_unique : ∀ {l l' : List ItemM}, l.Perm l' → l.Pairwise (fun a b => a.field < b.field) → l'.Pairwise (fun a b => a.field < b.field) → l = l'
  | [], l', h, _, _ => (List.nil_perm.1 h).symm
  | a :: l, [], h, _, _ => absurd (List.perm_nil.1 h) (by simp)
  | a :: l, b :: l', h, h1, h2 => by
    rw [List.pairwise_cons] at h1 h2
    have hab : a = b := by
      rcases List.mem_cons.1 (h.mem_iff.1 (List.mem_cons_self ..)) with e | hm
      · exact e
      · rcases List.mem_cons.1 (h.mem_iff.2 (List.mem_cons_self (a := b) (l := l'))) with e | hm2
        · exact e.symm
        · exact absurd (h2.1 a hm) (by rw [List.not_lt]; exact List.le_of_lt (h1.1 b hm2))
    subst hab
    rw [sorted_unique ((List.perm_cons a).1 h) h1.2 h2.2]
theorem sortI_strict {l : List ItemM} (h : (l.map (·.field)).Nodup) : (sortI l).Pairwise (fun a b => a.field < b.field) := by
  have hp : (sortI l).Perm l := List.mergeSort_perm _ _
  have h1 := sortI_sorted l
  have h2 : ((sortI l).map (·.field)).Nodup := ((hp.map _).nodup_iff).2 h
  unfold List.Nodup at h2
  rw [List.pairwise_map] at h2
  exact (h1.and h2).imp fun {a b} ⟨q1, q2⟩ => by
    rcases List.le_iff_lt_or_eq.mp q1 with q | q
    · exact q
    · exact absurd q q2
theorem sortI_perm {l l' : List ItemM} (h : l.Perm l') (hn : (l.map (·.field)).Nodup) : sortI l = sortI l' := by
  refine sorted_unique ?_ (sortI_strict hn) (sortI_strict (((h.map _).nodup_iff).1 hn))
  exact (List.mergeSort_perm l _).trans (h.trans (List.mergeSort_perm l' _).symm)
theorem ltOf_item {l : List ItemM} (x y : {x : ItemM // x ∈ l}) : ltOf (fun (a b : {x : ItemM // x ∈ l}) => itemCmp a.1 b.1) x y = decide (x.1.field < y.1.field) := by
  unfold ltOf; rw [Bool.eq_iff_iff, decide_eq_true_iff, decide_eq_true_iff]; exact itemCmp_neg _ _
theorem attach_flat (l : List ItemM) : l.attach.flatMap (fun x => itemMC x.1) = l.flatMap itemMC := by
  conv => rhs; rw [← List.attach_map_subtype_val l]
  rw [List.flatMap_map]
theorem sortF_attach (l : List ItemM) : (sortF (fun (a b : {x : ItemM // x ∈ l}) => itemCmp a.1 b.1) l.attach).map (·.1) = sortI l := by
  unfold sortF sortI
  rw [List.map_mergeSort (s := fun x y => decide (x.field ≤ y.field)) (fun a _ b _ => by rw [ltOf_item, ← decide_not]; exact decide_eq_decide.2 (le_iff _ _).symm)]
  rw [List.attach_map_subtype_val]
theorem sortItem_gen (l : List ItemM) (hd : (l.map (·.field)).Nodup) (a : ItemM) (ha : a ∈ l) (X : List Nat) (w : World) (s : List {x : ItemM // x ∈ l}) (A : Option Addr) (c : Nat) (sp : List Value) (hs : St X w [(blkOf A, Cl (s.flatMap (fun x => itemMC x.1) ++ sp) 80)] []) (how : Ow A s.length c 2 (s.flatMap (fun x => itemMC x.1)) sp) (hs62 : s.length < 4611686018427387904) :
    Fn Tryz.prog 103 [.slice A s.length c, .func (.func 104) #[] #[]] w fun v w' => v = .tuple #[] ∧ Ow A s.length c 2 ((sortF (fun (a b : {x : ItemM // x ∈ l}) => itemCmp a.1 b.1) s).flatMap (fun x => itemMC x.1)) sp ∧ (sortF (fun (a b : {x : ItemM // x ∈ l}) => itemCmp a.1 b.1) s).length = s.length ∧ St X w' [(blkOf A, Cl ((sortF (fun (a b : {x : ItemM // x ∈ l}) => itemCmp a.1 b.1) s).flatMap (fun x => itemMC x.1) ++ sp) 80)] [] ∧ Fr (keys [(blkOf A, Cl (s.flatMap (fun x => itemMC x.1) ++ sp) 80)]) w w' := by
  letI : Inhabited {x : ItemM // x ∈ l} := ⟨⟨a, ha⟩⟩
  exact sortFn (α := {x : ItemM // x ∈ l}) (enc := fun x => itemMC x.1) (k := 2) (e := 80) Tryz.laysSortItem (agg_run Ty.ag_80) (run_sizeOf Ty.sz_80) (fun _ => rfl) (by decide) (fun x v hv => by simp only [itemMC, List.mem_cons, List.not_mem_nil, or_false] at hv; rcases hv with rfl | rfl <;> rfl)
      (cf := fun a b => itemCmp a.1 b.1) ⟨fun x => by rw [ltOf_item]; simp, fun x y z h1 h2 => by rw [ltOf_item] at *; simp only [decide_eq_true_eq] at *; exact List.lt_trans h1 h2, fun x y z h1 h2 => by
        rw [ltOf_item] at *; simp only [decide_eq_false_iff_not, List.not_lt] at *; exact List.le_trans h2 h1⟩
      (fun x y h1 h2 => by
        rw [ltOf_item] at h1 h2; simp only [decide_eq_false_iff_not, List.not_lt] at h1 h2
        exact Subtype.ext (nodup_inj hd x.2 y.2 (List.le_antisymm h2 h1))) (g := 104) (cb := []) (enters_run Ty.en_104) Ty.en_103 X w s hs62 A c sp hs how (fun w1 x y _ => mitems1_ok w1 x.1 y.1)
theorem sortItem_ok (X : List Nat) (w : World) (s : List ItemM) (A : Option Addr) (c : Nat) (sp : List Value) (hs : St X w [(blkOf A, Cl (s.flatMap itemMC ++ sp) 80)] []) (how : Ow A s.length c 2 (s.flatMap itemMC) sp) (hs62 : s.length < 4611686018427387904) (t : List ItemM) (hp : s.Perm t) (hd : (s.map (·.field)).Nodup) :
    Fn Tryz.prog 103 [.slice A s.length c, .func (.func 104) #[] #[]] w fun v w' => v = .tuple #[] ∧ Ow A s.length c 2 ((sortI t).flatMap itemMC) sp ∧ (sortI t).length = s.length ∧ St X w' [(blkOf A, Cl ((sortI t).flatMap itemMC ++ sp) 80)] [] ∧ Fr (keys [(blkOf A, Cl (s.flatMap itemMC ++ sp) 80)]) w w' := by
  rw [← sortI_perm hp hd]
  by_cases h0 : s = []
  · subst h0
    have hn : sortI [] = [] := List.eq_nil_of_length_eq_zero (sortI_len [])
    have hn2 : sortF (fun (a b : {x : ItemM // x ∈ [(default : ItemM)]}) => itemCmp a.1 b.1) [] = [] := List.eq_nil_of_length_eq_zero (sortF_len _ [])
    rw [hn]
    have := sortItem_gen [default] (by simp) default (by simp) X w [] A c sp hs how hs62
    rw [hn2] at this
    exact this
  · obtain ⟨a, ha⟩ := List.exists_mem_of_ne_nil s h0
    have hl : s.attach.length = s.length := List.length_attach
    have key := sortItem_gen s hd a ha X w s.attach A c sp (by rw [attach_flat]; exact hs) (by rw [attach_flat, hl]; exact how) (by rw [hl]; exact hs62)
    have e1 : (sortF (fun (a b : {x : ItemM // x ∈ s}) => itemCmp a.1 b.1) s.attach).flatMap (fun x => itemMC x.1) = (sortI s).flatMap itemMC := by
      rw [← sortF_attach s, List.flatMap_map]
    rw [hl] at key
    refine key.mono fun v w' ⟨h1, h2, h3, h4, h5⟩ => ⟨h1, by rw [← e1]; exact h2, sortI_len s, by rw [← e1]; exact h4, by rw [attach_flat] at h5; exact h5⟩
theorem mset_len {α β : Type} [DecidableEq α] : ∀ (m : List (α × β)) (k : α) (v : β), (mset m k v).length ≤ m.length + 1
  | [], k, v => by simp [mset]
  | e :: r, k, v => by
    unfold mset; split
    · simp
    · have := mset_len r k v; simp; omega
theorem items_nodup {es : Array MapEntry} {clock : Nat} {m : List (List UInt8 × PutM)} {ev : PutM → Value} (hM : MOk (fun x : List UInt8 => sv x) ev es clock m) {l : List ItemM} (h : l.Perm (m.map (fun p : List UInt8 × PutM => (⟨p.1, p.2.val⟩ : ItemM)))) : (l.map (·.field)).Nodup := by
  rw [(h.map _).nodup_iff, List.map_map]
  have h1 := hM.st.2.2
  rw [hM.ks, List.map_map] at h1
  refine List.Pairwise.imp ?_ (List.pairwise_map.1 h1) |> (List.pairwise_map.2 ·)
  intro a b hab e
  exact hab (by simpa using congrArg sv e)
theorem kl_9 : KLaw Tryz.prog 9 (fun x : List UInt8 => sv x) := KLaw.str Tryz.underlying9
def mitems_c1 (s : MapM) (s18 : Int) (mg2 : List ((List UInt8) × PutM)) : Bool :=
  (if ((mget mg2 ((ix s.puts s18).field)).isSome) = true then decide ((mlater_m ((mget mg2 ((ix s.puts s18).field)).getD (⟨(⟨(⟨0, 0⟩ : IdM), 0⟩ : TagM), [], 0, (⟨0, 0⟩ : StampM)⟩ : PutM)) (ix s.puts s18)) < 0) else true)
def mitems_L1 (s : MapM) : Nat → Int → (List ((List UInt8) × PutM)) → ((List ItemM)) ⊕ (Int × (List ((List UInt8) × PutM)))
  | 0, s18, mg2 => .inr (s18, mg2)
  | fuel + 1, s18, mg2 =>
    if s18 < (s.puts.length : Int) then
      if (mitems_c1 s s18 mg2) = true then
        mitems_L1 s fuel (s18 + 1) (mset mg2 ((ix s.puts s18).field) (ix s.puts s18))
      else
        mitems_L1 s fuel (s18 + 1) mg2
    else
      .inr (s18, mg2)
def mitems_m (s : MapM) : (List ItemM) :=
  if (mcheck_m s) = 0 then
    match mitems_L1 s (((s.puts.length : Int) - (0 : Int)).toNat + 1) (0 : Int) ([] : List ((List UInt8) × PutM)) with
    | .inl r => r
    | .inr (s18, mg2) =>
      sortI (mg2.map (fun p : List UInt8 × PutM => (⟨p.1, p.2.val⟩ : ItemM)))
  else
    ([] : List ItemM)
theorem mitems_c1_iff (s : MapM) (s18 : Int) (mg2 : List ((List UInt8) × PutM)) : (mitems_c1 s s18 mg2 = true) ↔ (¬ (((mget mg2 ((ix s.puts s18).field)).isSome) = true) ∨ ((mlater_m ((mget mg2 ((ix s.puts s18).field)).getD (⟨(⟨(⟨0, 0⟩ : IdM), 0⟩ : TagM), [], 0, (⟨0, 0⟩ : StampM)⟩ : PutM)) (ix s.puts s18)) < 0)) := by
  unfold mitems_c1; exact (ci4 decide_eq_true_iff)
theorem mitems_ok (X : List Nat) (w : World) (hX : Lo X w) (s : MapM) (A2 : Option Addr) (C2 : Nat) (A1 : Option Addr) (C1 : Nat) (z4 : Sld X w A2 s.puts.length C2 7 (s.puts.flatMap putMC)) (z3 : Sld X w A1 s.gone.length C1 3 (s.gone.flatMap tagMC)) (h1 : s.puts.length ≤ 1000000) (h2 : s.gone.length ≤ 1000000) :
    Fn Tryz.prog 55 [.agg #[.slice A2 s.puts.length C2, .slice A1 s.gone.length C1]] w fun v w' => ∃ (Ar : Option Addr) (cr : Nat), v = .slice Ar (mitems_m s).length cr ∧ Sld X w' Ar (mitems_m s).length cr 2 ((mitems_m s).flatMap itemMC) ∧ Fr [] w w' := by
  refine Fn_of 59 Ty.en_55 Tryz.func55 rfl rfl rfl ?_
  dsimp only [argEnv]
  have st := stn2 hX z4 z3
  have hF := Fr.refl ([]) w
  have z2 := (st.q 0 rfl).le
  have z1 := (st.q 1 rfl).le
  refine sq fun _ k1 => rg (La rfl (Sbx st hF rfl fun g1 w1 (st : St _ _ [_] _) hF hg1 => Ls' rfl (Ln k1 (sq fun _ k2 => sq fun _ k3 => rg (Ly rfl (yw 0 Ty.ag_55 st rfl) (La rfl (Scl st hF rfl (mcheck_ok (keys (hOf st) ++ X) _ st.Lo s A2 C2 A1 C1 (st.q 0 rfl) (st.q 1 rfl) h1 h2) fun w2 st hF => Ly rfl (yne rfl) (Ln k3 (cN rfl (fun hc1 => ?_) (fun hc1 => ?_))))))))))
  · refine sq fun _ k4 => rg (Ls' rfl (Ln k4 ?_))
    have st := st.aN 2
    refine wR (Th_r (fR (Res1 rfl rfl) ?_))
    unfold mitems_m; rewrite [iN hc1]
    exact ⟨_, _, rfl, st.ot 2 rfl, hF⟩
  refine sk k2 (sq fun _ k5 => rg (La rfl (a_mkmap rfl rfl rfl st.hp (fun g2 w3 (hp : Hp w3 [_, _]) hf hg2 => ?_))))
  have st : St X w3 [_, _] [_, _] := st.push hp hf hg2
  have hg2 := Nat.le_trans hF.size hg2
  have hF := hF.step0 hf
  have hmap1 : MOk (fun x : List UInt8 => sv x) (fun x : PutM => Value.agg (putMC x).toArray) #[] 0 ([] : List ((List UInt8) × PutM)) := MOk.empty
  refine Ls' rfl (Ln k5 (sq fun _ k6 => sq fun _ k7 => rg (Ly rfl (yf rfl Ty.fo_55_0) (Ly rfl (yl 0 Ty.pl_53 st rfl) (Ly rfl (yll rfl Tryz.underlying53) (Lm rfl (Ln k7 (Wp_block (lp (fun q E W => ∃ (s18 : Int) (mg2 : List ((List UInt8) × PutM)) (es_mg2 : Array MapEntry) (cl_mg2 : Nat), E = [(3, .map (some g2)), (16, .slice A2 s.puts.length C2), (17, .int .i64 (s.puts.length : Int)), (18, .int .i64 s18)] ∧ jq q (fun m => (mitems_L1 s m s18 mg2 = mitems_L1 s (((s.puts.length : Int) - (0 : Int)).toNat + 1) (0 : Int) ([] : List ((List UInt8) × PutM)) ∧ ((s.puts.length : Int) - s18).toNat < m)) (mitems_L1 s (((s.puts.length : Int) - (0 : Int)).toNat + 1) (0 : Int) ([] : List ((List UInt8) × PutM)) = .inr (s18, mg2)) ∧ (0 ≤ s18 ∧ 0 ≤ s18 ∧ s18 ≤ s.puts.length ∧ (mg2.length : Int) ≤ s18) ∧ MOk (fun x : List UInt8 => sv x) (fun x : PutM => Value.agg (putMC x).toArray) es_mg2 cl_mg2 mg2 ∧ St X W [(some g1, Cl [.slice A2 s.puts.length C2, .slice A1 s.gone.length C1] 55), (some g2, Obj.map es_mg2 cl_mg2)] [kS A2 s.puts.length C2 7 (s.puts.flatMap putMC), kS A1 s.gone.length C1 3 (s.gone.flatMap tagMC)] ∧ Fr ([]) w W) (((s.puts.length : Int) - (0 : Int)).toNat + 1) [(3, _), (16, _), (17, _), (18, _)] ⟨rfl, rfl, rfl, rfl, trivial⟩ ⟨_, _, _, _, rfl, ⟨rfl, Nat.lt_succ_self _⟩, by first | omega | (simp; done) | (simp; omega), hmap1, st, hF⟩ k6 ?_ fun hout1 => ?_)))))))))
  · rintro E w4 ⟨s18, mg2, es_mg2, cl_mg2, rfl, hLk1, hinv, hmapmg2, st, hF⟩
    unfold jq at hLk1; dsimp only at hLk1
    refine sq fun _ k8 => rg (Ls' rfl (Ln k8 (sq fun _ k9 => sq fun _ k10 => rg (Lm rfl (La rfl (a_rangeM (i := 1) rfl rfl rfl rfl Tryz.underlying190 st.hp rfl (fun gr1 w5 (hp : Hp w5 [_, _, _]) hf hg3 => ?_)))))))
    have st : St X w5 [_, _, _] [_, _] := st.push hp hf hg3
    have hg3 := Nat.le_trans hF.size hg3
    have hF := hF.step0 hf
    refine Ln k10 (Wp_block ?_)
    obtain ⟨st, how1, hnew1⟩ := st.rowN itemMC hF 2 80
    have st : St _ _ [_, _, _, _] _ := st
    refine lp (fun q E W => ∃ (s8 : List ItemM) (left : List ((List UInt8) × PutM)) (done : List ((List UInt8) × PutM)) (As8 : Option Addr) (cs8 : Nat) (sps8 : List Value) (seen : Array Nat), E = [(8, .slice As8 s8.length cs8), (43, .pointer (some ⟨gr1, 0, none⟩))] ∧ jq q (fun m => (left.length < m)) (True) ∧ jq q (fun _ => (s8 = done.map (fun p : List UInt8 × PutM => (⟨p.1, p.2.val⟩ : ItemM)))) ((s8.Perm (mg2.map (fun p : List UInt8 × PutM => (⟨p.1, p.2.val⟩ : ItemM))))) ∧ Ow As8 s8.length cs8 2 (s8.flatMap itemMC) sps8 ∧ (∀ g, blkOf As8 = some g → g ∈ ([]) ∨ w.heap.size ≤ g) ∧ Left (fun x : List UInt8 => sv x) (fun x : PutM => Value.agg (putMC x).toArray) es_mg2 seen left ∧ (done ++ left).Perm mg2 ∧ St X W [(some g1, Cl [.slice A2 s.puts.length C2, .slice A1 s.gone.length C1] 55), (some g2, Obj.map es_mg2 cl_mg2), (some gr1, Obj.mapIter (some g2) cl_mg2 seen cl_mg2), (blkOf As8, Cl (s8.flatMap itemMC ++ sps8) 80)] [kS A2 s.puts.length C2 7 (s.puts.flatMap putMC), kS A1 s.gone.length C1 3 (s.gone.flatMap tagMC)] ∧ Fr ([]) w W) (mg2.length + 1) [(8, _), (43, _)] ⟨rfl, rfl, trivial⟩ ⟨([] : List ItemM), mg2, ([] : List ((List UInt8) × PutM)), none, 0, [], (#[]), rfl, Nat.lt_succ_self _, show _ from (by rfl), how1, hnew1, (Left.all hmapmg2), (List.Perm.refl _), st, hF⟩ k9 ?_ fun hout2 => ?_
    · rintro E w6 ⟨s8, left, done, As8, cs8, sps8, seen, rfl, _, hinv, hows8, news8, z7, hpm, st, hF⟩
      unfold jq at hinv; dsimp only at hinv
      refine sq fun _ k11 => rg (Lm rfl ?_)
      have hnd : (s8.map (·.field)).Nodup := items_nodup hmapmg2 hinv
      have hsl : s8.length = mg2.length := by have := hinv.length_eq; simpa using this
      refine La rfl (a_call rfl rfl rfl rfl (sortItem_ok (keys (pickL (hOf st) [0, 1, 2]) ++ X) _ s8 As8 cs8 sps8 (st.sub [0, 1, 2] [3] [] (by decide)) hows8 (by omega) _ hinv hnd) (fun v w7 ⟨hv, how2, hln1, hN1, hfO1⟩ => ?_))
      subst hv
      have st := st.callS [0, 1, 2] [3] (by decide) rfl hN1 hfO1 (fun k hk => .inl (keys1 hk))
      have hF := hF.step hfO1 (kc_b news8 kc_n)
      have how3 : Ow As8 (sortI (mg2.map (fun p : List UInt8 × PutM => (⟨p.1, p.2.val⟩ : ItemM)))).length cs8 2 ((sortI (mg2.map (fun p : List UInt8 × PutM => (⟨p.1, p.2.val⟩ : ItemM)))).flatMap itemMC) sps8 := by rw [hln1]; exact how2
      have st : St X w7 [_, _, _, _] [_, _] := st
      refine Ln k11 (sq fun _ k12 => rg (Lm rfl (Ls' rfl (Ln k12 ?_))))
      rewrite [show s8.length = (sortI (mg2.map (fun p : List UInt8 × PutM => (⟨p.1, p.2.val⟩ : ItemM)))).length from hln1.symm]
      have st : St X w7 [_, _, _] [_, _, _] := st.freeze (i := 3) [0, 1, 2] (by decide) rfl how3 (by decide)
      refine wR (fR (Res1 rfl rfl) ?_)
      unfold mitems_m; rewrite [iP hc1, hLk1]; (try dsimp only)
      exact ⟨_, _, rfl, st.ot 2 rfl, hF⟩
    rintro m E w8 ⟨s8, left, done, As8, cs8, sps8, seen, rfl, hmu, hinv, hows8, news8, z7, hpm, st, hF⟩
    unfold jq at hinv; dsimp only at hinv
    unfold jq at hmu; dsimp only at hmu
    obtain ⟨fuel, rfl⟩ : ∃ q, m = q + 1 := ⟨m - 1, by omega⟩
    have z5 := Ow.le hows8
    have hs8 : s8.length + left.length = mg2.length := by rw [hinv]; have := hpm.length_eq; simpa using this
    refine sq fun _ k13 => rg (Ls_a (wtd0 rfl) (a_nextM (ir := 2) (im := 1) (left := left) rfl rfl rfl rfl st.hp rfl rfl hmapmg2 z7 (fun hz1 => ?_) (fun p1 left1 seen1 w9 hperm1 z6 hent1 (hp : Hp w9 [_, _, _, _]) hf => ?_)))
    · refine Lx rfl (Ln k13 (sq fun _ k14 => Wp_cond_f rfl (Wp_exit (Th_e (Th_e (Ib_hit (Th_n (?_))))))))
      exact hout2 _ [(8, _), (43, _)] _ ⟨rfl, rfl, trivial⟩ ⟨s8, left, done, As8, cs8, sps8, seen, rfl, trivial, by unfold jq; dsimp only; subst hinv; rw [hz1, List.append_nil] at hpm; exact hpm.map _, hows8, news8, z7, hpm, (st.pk [0, 1, 2, 3] (by decide)).pickK [0, 1], hF⟩
    have st : St X w9 [_, _, _, _] [_, _] := st.set (i := 2) rfl hp hf
    have st : St X w9 [_, _, _, _] [_, _] := st
    have hF := hF.step hf (by intro y hy; simp only [List.mem_cons, List.not_mem_nil, or_false] at hy; subst hy; first | (exact Or.inr (by omega)) | (exact Or.inl (kin0 _ _)) | (exact Or.inl (by simp)))
    have hhperm1 : left1.length + 1 = left.length := hperm1.length_eq
    refine Lx rfl (Ln k13 (sq fun _ k15 => Wp_cond_t rfl (sk k15 (Wp_block (sq fun _ k16 => rg (Ly rfl (y_entryM (ir := 2) (im := 1) rfl rfl (fun _ e => e ▸ st.hp) rfl rfl hmapmg2 hent1) (Lx rfl (Lx rfl (La rfl (Sal Ty.zc_131 st hF rfl fun g3 w10 (st : St _ _ [_, _, _, _, _] _) hF hg4 => Ls' rfl (La rfl (Ssw 4 Ty.sz_131 st hF (.inr hg4) rfl fun w11 (st : St _ _ [_, _, _, _, _] _) hF => Ln k16 (rg (Lm rfl (Lm rfl (Ly rfl (yf rfl Ty.fo_131_2) (Ly rfl (yl 4 Ty.pl_2 st rfl) (Ly rfl (y_build (cells := [_, _]) rfl rfl Ty.zc_80 Ty.ps_80 rfl) (La rfl (Sb (enc := itemMC) (⟨p1.1, p1.2.val⟩ : ItemM) Ty.es_75 Ty.zc_80 (fun _ => rfl) st hF rfl fun g4 w12 how4 hnew2 (st : St _ _ [_, _, _, _, _, _] _) hF => La rfl (Sap (enc := itemMC) s8 [(⟨p1.1, p1.2.val⟩ : ItemM)] 3 Ty.es_75 Ty.zc_80 Ty.by_80 (fun _ => rfl) itemMC_1 hows8 news8 st hF (own_src (i := 5) st.hp rfl how4) (own_none how4) rfl (by first | omega | (simp; done) | (simp; omega)) (by first | omega | (simp; done) | (simp; omega)) fun Aa1 ca1 sp1 w13 how5 hnew3 (st : St _ _ [_, _, _, _, _, _] _) hF => ?_)))))))))))))))))))))
    refine Ls' rfl (Ls_nil (Ib_n (Th_n (?_))))
    exact ⟨fuel, [(8, _), (43, _)], Nat.lt_succ_self _, ⟨rfl, rfl, trivial⟩, (s8 ++ [(⟨p1.1, p1.2.val⟩ : ItemM)]), left1, (done ++ [p1]), Aa1, ca1, sp1, seen1, rfl, show _ < _ by first | omega | (simp; done) | (simp; omega), by unfold jq; dsimp only; subst hinv; simp, how5, hnew3, z6, (by rw [List.append_assoc]; exact (List.Perm.append_left done hperm1).trans hpm), (st.pk [0, 1, 2, 3] (by decide)).pickK [0, 1], hF⟩
  rintro m E w14 ⟨s18, mg2, es_mg2, cl_mg2, rfl, ⟨hL1, hmu⟩, hinv, hmapmg2, st, hF⟩
  obtain ⟨fuel, rfl⟩ : ∃ q, m = q + 1 := ⟨m - 1, by omega⟩
  refine sq fun _ k17 => rg (Ly rfl (ylt rfl) (Ln k17 (sq fun _ k18 => cD rfl (fun hc2 => ?_) (fun hc2 => ?_))))
  · refine sk k18 (sq fun _ k19 => Wp_block (sq fun _ k20 => rg ?_))
    obtain ⟨gi1, bi1, egi1⟩ := (st.k (i := 0) rfl).addr (fun _ => rfl) (by decide) (q := s18) (by first | omega | (simp; done) | (simp; omega)) (by first | omega | (simp; done) | (simp; omega))
    subst egi1
    refine Ly rfl (y_ixa (q := s18) rfl rfl rfl Ty.es_53 (by first | omega | (simp; done) | (simp; omega)) (by first | omega | (simp; done) | (simp; omega))) ?_
    refine Ly rfl (y_ldk (q := s18) rfl rfl Ty.ag_131 (fun _ e => e ▸ st.k (i := 0) rfl) (fun _ => rfl) (by first | omega | (simp; done) | (simp; omega)) (by first | omega | (simp; done) | (simp; omega))) ?_
    refine La rfl (Sal Ty.zc_131 st hF rfl fun g5 w15 (st : St _ _ [_, _, _] _) hF hg6 => La rfl (Ssw 2 Ty.sz_131 st hF (.inr hg6) rfl fun w16 (st : St _ _ [_, _, _] _) hF => Ln k20 (sq fun _ k21 => rg (Lm rfl (Ly rfl (yf rfl Ty.fo_131_1) (Ly rfl (yl 2 Ty.pl_9 st rfl) (Ly rfl (y_lookupOkM (i := 1) (enc := (fun x : List UInt8 => sv x)) (ev := (fun x : PutM => Value.agg (putMC x).toArray)) (k := (ix s.puts s18).field) (z := (⟨(⟨(⟨0, 0⟩ : IdM), 0⟩ : TagM), [], 0, (⟨0, 0⟩ : StampM)⟩ : PutM)) rfl rfl rfl Tryz.underlying190 kl_9 (by kernel_rfl) (fun _ e => e ▸ st.hp) rfl hmapmg2) ?_)))))))
    refine Lm rfl (Lx rfl (Lx rfl (La rfl (Sal Ty.zc_131 st hF rfl fun g6 w17 (st : St _ _ [_, _, _, _] _) hF hg7 => La rfl (Ssw 3 Ty.sz_131 st hF (.inr hg7) rfl fun w18 (st : St _ _ [_, _, _, _] _) hF => Ls' rfl (Ln k21 (sq fun _ k22 => ?_)))))))
    refine use_out k22 (fun E W => E = [(3, .map (some g2)), (5, .pointer (some ⟨g5, 0, none⟩)), (16, .slice (some ⟨gi1, bi1, none⟩) s.puts.length C2), (17, .int .i64 (s.puts.length : Int)), (18, .int .i64 s18), (36, .bool (mitems_c1 s s18 mg2))] ∧ St X W (hOf st) (kOf st) ∧ Fr ([]) w W) ?_ fun hout3 => ?_
    · rintro E w19 ⟨rfl, st, hF⟩
      have st : St X w19 [_, _, _, _] [_, _] := st
      refine cB rfl (fun hc3 => ?_) (fun hc3 => ?_)
      · have jhc3 := (mitems_c1_iff s s18 mg2).1 hc3
        refine rg (Lm rfl (Ly rfl (yf rfl Ty.fo_131_1) (Ly rfl (yl 2 Ty.pl_9 st rfl) (Ly rfl (yw 2 Ty.ag_131 st rfl) (La rfl (a_mapupM (i := 1) (enc := (fun x : List UInt8 => sv x)) (ev := (fun x : PutM => Value.agg (putMC x).toArray)) (k := (ix s.puts s18).field) (u := ix s.puts s18) rfl rfl rfl rfl rfl Tryz.underlying190 kl_9 st.hp rfl hmapmg2 (fun es1 cl1 w20 hmap2 (hp : Hp w20 [_, _, _, _]) hf => ?_)))))))
        have st : St X w20 [_, _, _, _] [_, _] := st.set (i := 1) rfl hp hf
        have st : St X w20 [_, _, _, _] [_, _] := st
        have hF := hF.step hf (by intro y hy; simp only [List.mem_cons, List.not_mem_nil, or_false] at hy; subst hy; first | (exact Or.inr (by omega)) | (exact Or.inl (kin0 _ _)) | (exact Or.inl (by simp)))
        refine Ls_nil (Ib_n (Th_n (k19 _ _ (rg (Ly rfl (y_add (c := s18 + 1) rfl rfl rfl (wf_i64 (by first | omega | (simp; done) | (simp; omega)))) ?_)))))
        refine Lm rfl (Ls_nil (Th_n (?_)))
        exact ⟨fuel, [(3, _), (16, _), (17, _), (18, _)], Nat.lt_succ_self _, ⟨rfl, rfl, rfl, rfl, trivial⟩, (s18 + 1), (mset mg2 ((ix s.puts s18).field) (ix s.puts s18)), es1, cl1, rfl, ⟨by rewrite [← hL1, mitems_L1]; rewrite [iP hc2, iP hc3]; rfl, by first | omega | (simp; done) | (simp; omega)⟩, by first | omega | (have hml := mset_len mg2 (ix s.puts s18).field (ix s.puts s18); omega), hmap2, (st.pk [0, 1] (by decide)).pickK [0, 1], hF⟩
      have jhc3 := mt (mitems_c1_iff s s18 mg2).2 hc3
      refine Wp_skip (Ib_n (Th_n (k19 _ _ (rg (Ly rfl (y_add (c := s18 + 1) rfl rfl rfl (wf_i64 (by first | omega | (simp; done) | (simp; omega)))) ?_)))))
      refine Lm rfl (Ls_nil (Th_n (?_)))
      exact ⟨fuel, [(3, _), (16, _), (17, _), (18, _)], Nat.lt_succ_self _, ⟨rfl, rfl, rfl, rfl, trivial⟩, (s18 + 1), mg2, es_mg2, cl_mg2, rfl, ⟨by rewrite [← hL1, mitems_L1]; rewrite [iP hc2, iN hc3]; rfl, by first | omega | (simp; done) | (simp; omega)⟩, by first | omega | (have hml := mset_len mg2 (ix s.puts s18).field (ix s.puts s18); omega), hmapmg2, (st.pk [0, 1] (by decide)).pickK [0, 1], hF⟩
    refine rg (Lm rfl (Ly rfl (yn rfl) (Lm rfl (bBn (s := 31) rfl (fun hc4 => ?_) (fun hc4 => ?_)))))
    · refine LsF rfl (LsF rfl (LsF rfl (LsF rfl (Ly rfl (yT rfl) (Ls_nil (Th_n (?_)))))))
      exact hout3 _ [(3, _), (5, _), (16, _), (17, _), (18, _), (36, _)] _ ⟨rfl, rfl, rfl, rfl, rfl, rfl, trivial⟩ ⟨by unfold mitems_c1; rewrite [iN hc4]; rfl, (st.pk [0, 1, 2, 3] (by decide)).pickK [0, 1], hF⟩
    refine LyT rfl (yw 3 Ty.ag_131 st rfl) (LyT rfl (yw 2 Ty.ag_131 st rfl) (LaT rfl (Scl st hF rfl (mlater_ok _ ((mget mg2 ((ix s.puts s18).field)).getD (⟨(⟨(⟨0, 0⟩ : IdM), 0⟩ : TagM), [], 0, (⟨0, 0⟩ : StampM)⟩ : PutM)) (ix s.puts s18)) fun w21 st hF => LyT rfl (ylt rfl) (Ly rfl (yF rfl) (Ls_nil (Th_n (?_)))))))
    exact hout3 _ [(3, _), (5, _), (16, _), (17, _), (18, _), (36, _)] _ ⟨rfl, rfl, rfl, rfl, rfl, rfl, trivial⟩ ⟨by unfold mitems_c1; rewrite [iP hc4]; rfl, (st.pk [0, 1, 2, 3] (by decide)).pickK [0, 1], hF⟩
  refine Wp_exit (Th_e (Th_e (Ib_hit (Th_n (?_)))))
  exact hout1 _ [(3, _), (16, _), (17, _), (18, _)] _ ⟨rfl, rfl, rfl, rfl, trivial⟩ ⟨s18, mg2, es_mg2, cl_mg2, rfl, show _ = _ from by rewrite [← hL1, mitems_L1]; rewrite [iN hc2]; rfl, by first | omega | (simp; done) | (simp; omega), hmapmg2, (st.pk [0, 1] (by decide)).pickK [0, 1], hF⟩
end Go.Proofs.YtdckemiebnfjcaaGreatDoor
end

section
set_option linter.unusedVariables false
set_option linter.unusedSimpArgs false
namespace Go.Proofs.YtdckemiebnfjcaaGreatDoor
def ddl {α : Type} : α → List α → α
  | p, [] => p
  | _, b :: l => ddl b l
theorem ddl_last {α : Type} : ∀ (p : α) (l : List α), ddl p l = (p :: l).getLast (by simp)
  | p, [] => rfl
  | p, b :: l => by rw [List.getLast_cons (by simp)]; exact ddl_last b l
section
variable {α : Type} [DecidableEq α]
def ddp : α → List α → List α
  | _, [] => []
  | p, b :: l => if b = p then ddp p l else b :: ddp b l
def dd : List α → List α
  | [] => []
  | a :: l => a :: ddp a l
theorem ddp_mem : ∀ (p : α) (l : List α) (x : α), x = p ∨ x ∈ ddp p l ↔ x = p ∨ x ∈ l
  | p, [], x => by simp [ddp]
  | p, b :: l, x => by
    unfold ddp
    split
    · rename_i h; subst h
      rw [ddp_mem b l x]; simp
    · have := ddp_mem b l x
      simp only [List.mem_cons, this]
theorem dd_mem (l : List α) (x : α) : x ∈ dd l ↔ x ∈ l := by
  cases l with
  | nil => simp [dd]
  | cons a l => simp only [dd, List.mem_cons]; exact ddp_mem a l x
theorem ddp_snoc : ∀ (p : α) (l : List α) (x : α), ddp p (l ++ [x]) = ddp p l ++ (if x = ddl p l then [] else [x])
  | p, [], x => by by_cases h : x = p <;> simp [ddp, ddl, h]
  | p, b :: l, x => by
    rw [List.cons_append]
    unfold ddp ddl
    split
    · rename_i h; subst h
      exact ddp_snoc b l x
    · rw [ddp_snoc b l x]; rfl
theorem dd_snoc {l : List α} (h : l ≠ []) (x y : α) (hy : l.getLast h = y) : dd (l ++ [x]) = dd l ++ (if x = y then [] else [x]) := by
  cases l with
  | nil => exact absurd rfl h
  | cons a l => simp only [List.cons_append, dd]; rw [ddp_snoc, ddl_last, hy]
theorem ddp_len : ∀ (p : α) (l : List α), (ddp p l).length ≤ l.length
  | p, [] => by simp [ddp]
  | p, b :: l => by
    unfold ddp
    split
    · have := ddp_len p l; simp; omega
    · have := ddp_len b l; simp; omega
theorem dd_len (l : List α) : (dd l).length ≤ l.length := by
  cases l with
  | nil => simp [dd]
  | cons a l => have := ddp_len a l; simp [dd]; omega
theorem ddp_strict (lt : α → α → Bool) (tot : ∀ a b, lt a b = false → lt b a = false → a = b) (tr : ∀ a b c, lt a b = true → lt b c = true → lt a c = true) : ∀ (p : α) (l : List α), (p :: l).Pairwise (fun a b => lt b a = false) → (p :: ddp p l).Pairwise (fun a b => lt a b = true)
  | p, [], _ => by simp [ddp]
  | p, b :: l, h => by
    rw [List.pairwise_cons, List.pairwise_cons] at h
    obtain ⟨h1, h2, h3⟩ := h
    unfold ddp
    split
    · rename_i e; subst e
      exact ddp_strict lt tot tr b l (List.pairwise_cons.2 ⟨h2, h3⟩)
    · rename_i e
      have hpb : lt p b = true := by
        have := h1 b (by simp)
        by_cases q : lt p b = true
        · exact q
        · exact absurd (tot b p this (by simpa using q)) e
      have ih := ddp_strict lt tot tr b l (List.pairwise_cons.2 ⟨h2, h3⟩)
      refine List.pairwise_cons.2 ⟨fun x hx => ?_, ih⟩
      rcases List.mem_cons.1 hx with rfl | hx
      · exact hpb
      · exact tr _ _ _ hpb ((List.pairwise_cons.1 ih).1 x hx)
theorem dd_strict (lt : α → α → Bool) (tot : ∀ a b, lt a b = false → lt b a = false → a = b) (tr : ∀ a b c, lt a b = true → lt b c = true → lt a c = true) (l : List α) (h : l.Pairwise (fun a b => lt b a = false)) : (dd l).Pairwise (fun a b => lt a b = true) := by
  cases l with
  | nil => simp [dd]
  | cons a l => exact ddp_strict lt tot tr a l h
end
section
variable {α : Type} (lt : α → α → Bool)
end
theorem compact_spec {α : Type} [Inhabited α] [DecidableEq α] (s : List α) (z : α) (L2 : Int → List α → Nat → Int → Int → List α → (List α) ⊕ (Int × Int × List α)) (L1 : Nat → Int → List α → (List α) ⊕ (Int × List α))
    (h2 : ∀ (s3 : Int) r0 fuel s3' s5 r', L2 s3 r0 (fuel + 1) s3' s5 r' = if s5 < ((s.length - s3.toNat : Nat) : Int) then (if ix r' (s3 + s5) = ix r' (s3 + (s5 - 1)) then L2 s3 r0 fuel s3' (s5 + 1) r' else L2 s3 r0 fuel (s3' + 1) (s5 + 1) (r'.set s3'.toNat (ix r' (s3 + s5)))) else .inr (s3', s5, r'))
    (h1 : ∀ fuel s3 r0, L1 (fuel + 1) s3 r0 = if s3 < (s.length : Int) then (if ix r0 s3 = ix r0 (s3 - 1) then (match L2 s3 r0 (((s.length : Int) - (1 : Int)).toNat + 1) s3 (1 : Int) r0 with | .inl r => .inl r | .inr (s3', s5, r') => .inl ((r'.take s3'.toNat ++ List.replicate (r'.length - s3'.toNat) z).take s3'.toNat)) else L1 fuel (s3 + 1) r0) else .inr (s3, r0)) (hs : 1 ≤ s.length) :
    ∀ (fuel : Nat) (s3 : Int), 1 ≤ s3 → s3 ≤ s.length → dd (s.take s3.toNat) = s.take s3.toNat → ((s.length : Int) - s3).toNat < fuel → (L1 fuel s3 s = .inl (dd s) ∨ (∃ q, L1 fuel s3 s = .inr (q, s)) ∧ dd s = s) := by
  have step : ∀ n : Nat, 1 ≤ n → n < s.length → dd (s.take (n + 1)) = dd (s.take n) ++ (if ix s (n : Int) = ix s ((n : Int) - 1) then [] else [ix s (n : Int)]) := by
    intro n hn1 hn
    have e1 : s.take (n + 1) = s.take n ++ [s[n]] := by rw [List.take_add_one, List.getElem?_eq_getElem hn]; rfl
    have hne : s.take n ≠ [] := by intro h; have := congrArg List.length h; rw [List.length_take, List.length_nil] at this; omega
    have e2 : (s.take n).getLast hne = s[n - 1] := by
      rw [List.getLast_eq_getElem]
      have : (s.take n).length - 1 = n - 1 := by rw [List.length_take]; omega
      simp only [this, List.getElem_take]
    rw [e1, dd_snoc hne _ _ e2]
    rw [ix_at s hn, show (n : Int) - 1 = ((n - 1 : Nat) : Int) by omega, ix_at s (by omega)]
  have inner : ∀ (fuel : Nat) (k : Int) (k' j : Int) (r : List α), 1 ≤ k → k < s.length → 1 ≤ j → k + j ≤ s.length → k ≤ k' → k' < k + j → r.length = s.length → (∀ i : Nat, (k + j - 1).toNat ≤ i → r[i]? = s[i]?) → r.take k'.toNat = dd (s.take (k + j).toNat) → ((s.length : Int) - (k + j)).toNat < fuel →
      ∃ q p r', L2 k s fuel q j r = L2 k s fuel q j r ∧ L2 k s fuel k' j r = .inr (p, q, r') ∧ r'.length = s.length ∧ r'.take p.toNat = dd s ∧ p ≤ s.length := by
    intro fuel
    induction fuel with
    | zero => intro k k' j r _ _ _ _ _ _ _ _ _ h; omega
    | succ fuel ih =>
      intro k k' j r hk1 hk2 hj hkj hkk hk' hrl hr hd hf
      rw [h2 k s fuel k' j r]
      by_cases hlt : j < ((s.length - k.toNat : Nat) : Int)
      · rw [if_pos hlt]
        have hn : (k + j).toNat < s.length := by omega
        have eA : ix r (k + j) = ix s (k + j) := by unfold ix; rw [hr (k + j).toNat (by omega)]
        have eB : ix r (k + (j - 1)) = ix s (k + j - 1) := by unfold ix; rw [show k + (j - 1) = k + j - 1 by omega, hr (k + j - 1).toNat (Nat.le_refl _)]
        have hst := step (k + j).toNat (by omega) hn
        rw [show (((k + j).toNat : Nat) : Int) = k + j by omega] at hst
        rw [eA, eB]
        by_cases heq : ix s (k + j) = ix s (k + j - 1)
        · rw [if_pos heq]
          rw [if_pos heq, List.append_nil] at hst
          obtain ⟨q, p, r', _, h3, h4, h5, h6⟩ := ih k k' (j + 1) r hk1 hk2 (by omega) (by omega) hkk (by omega) hrl (fun i hi => hr i (by omega)) (by rw [hd, show (k + (j + 1)).toNat = (k + j).toNat + 1 by omega, hst]) (by omega)
          exact ⟨q, p, r', rfl, h3, h4, h5, h6⟩
        · rw [if_neg heq]
          rw [if_neg heq] at hst
          obtain ⟨q, p, r', _, h3, h4, h5, h6⟩ := ih k (k' + 1) (j + 1) (r.set k'.toNat (ix s (k + j))) hk1 hk2 (by omega) (by omega) (by omega) (by omega) (by simpa using hrl) (fun i hi => by rw [List.getElem?_set_ne (by omega)]; exact hr i (by omega)) (by
            rw [show (k + (j + 1)).toNat = (k + j).toNat + 1 by omega, hst, ← hd, show (k' + 1).toNat = k'.toNat + 1 by omega, List.take_add_one, List.getElem?_set_self (by omega), List.take_set_of_le (by omega)]
            rfl) (by omega)
          exact ⟨q, p, r', rfl, h3, h4, h5, h6⟩
      · rw [if_neg hlt]
        refine ⟨j, k', r, rfl, rfl, hrl, ?_, by omega⟩
        rw [hd, List.take_of_length_le (by omega)]
  intro fuel
  induction fuel with
  | zero => intro s3 _ _ _ h; omega
  | succ fuel ih =>
    intro s3 hs1 hs2 hd hf
    rw [h1 fuel s3 s]
    by_cases hlt : s3 < (s.length : Int)
    · rw [if_pos hlt]
      have hst := step s3.toNat (by omega) (by omega)
      rw [show ((s3.toNat : Nat) : Int) = s3 by omega] at hst
      by_cases heq : ix s s3 = ix s (s3 - 1)
      · rw [if_pos heq]
        rw [if_pos heq, List.append_nil, hd] at hst
        obtain ⟨q, p, r', _, h3, h4, h5, h6⟩ := inner (((s.length : Int) - (1 : Int)).toNat + 1) s3 s3 1 s hs1 hlt (by omega) (by omega) (by omega) (by omega) rfl (fun _ _ => rfl) (by rw [show (s3 + 1).toNat = s3.toNat + 1 by omega, hst]) (by omega)
        rw [h3]
        left
        simp only
        congr 1
        rw [List.take_append_of_le_length (by rw [List.length_take]; omega), List.take_take, Nat.min_self, h5]
      · rw [if_neg heq]
        rw [if_neg heq, hd] at hst
        exact ih (s3 + 1) (by omega) (by omega) (by
          rw [show (s3 + 1).toNat = s3.toNat + 1 by omega, hst, List.take_add_one, ix, List.getElem?_eq_getElem (show s3.toNat < s.length by omega)]
          rfl) (by omega)
    · rw [if_neg hlt]
      right
      refine ⟨⟨s3, rfl⟩, ?_⟩
      rw [List.take_of_length_le (by omega)] at hd
      exact hd
end Go.Proofs.YtdckemiebnfjcaaGreatDoor
end

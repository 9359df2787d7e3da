/- Walks printed by gen2.py out of our own specifications: what the functions named below do. -/
import Derived.Test.YtngofknckkiboaaGreatDoorSc
import Derived.Test.YtngofknckkiboaaGreatDoorZ9
import Derived.Test.YtngofknckkiboaaGreatDoorSk
import Derived.Test.YtngofknckkiboaaGreatDoorShelf
set_option linter.unusedSimpArgs false
set_option linter.unusedVariables false
namespace Go.Proofs.YtngofknckkiboaaGreatDoor
open Go.RowKit


open Go.Shelf Go.Lib Go.Sort
theorem cmpS_eq (x y : List UInt8) : cmpS_m x y = if x < y then -1 else if y < x then 1 else 0 := by unfold cmpS_m nanS_m; simp
def itemCmp (a b : ItemM) : Int := mitems1_m a b
theorem itemCmp_neg (a b : ItemM) : itemCmp a b < 0 ↔ a.field < b.field := by
  unfold itemCmp mitems1_m; rw [cmpS_eq]
  split
  · simp [*]
  · rename_i h
    split <;> simp [h]
/-- Items by their fields. -/
def sortI (l : List ItemM) : List ItemM := l.mergeSort fun x y => decide (x.field ≤ y.field)
theorem sortI_len (l : List ItemM) : (sortI l).length = l.length := List.length_mergeSort _
theorem le_iff (x y : List UInt8) : x ≤ y ↔ ¬ y < x := List.not_lt.symm
theorem sortI_sorted (l : List ItemM) : (sortI l).Pairwise (fun a b => a.field ≤ b.field) := by
  have := List.pairwise_mergeSort (le := fun (x y : ItemM) => decide (x.field ≤ y.field)) (fun a b c h1 h2 => by
    simp only [decide_eq_true_eq] at *; exact List.le_trans h1 h2) (fun a b => by
    simp only [Bool.or_eq_true, decide_eq_true_eq]; exact List.le_total _ _) l
  simpa [sortI] using this
theorem nodup_inj {l : List ItemM} (h : (l.map (·.field)).Nodup) {a b : ItemM} (ha : a ∈ l) (hb : b ∈ l) (e : a.field = b.field) : a = b := by
  induction l with
  | nil => cases ha
  | cons x l ih =>
    rw [List.map_cons, List.nodup_cons] at h
    rcases List.mem_cons.1 ha with e1 | ha'
    · rcases List.mem_cons.1 hb with e2 | hb'
      · rw [e1, e2]
      · exact absurd (List.mem_map.2 ⟨b, hb', by rw [← e, e1]⟩) h.1
    · rcases List.mem_cons.1 hb with e2 | hb'
      · exact absurd (List.mem_map.2 ⟨a, ha', by rw [e, e2]⟩) h.1
      · exact ih h.2 ha' hb'
theorem sorted_unique : ∀ {l l' : List ItemM}, l.Perm l' → l.Pairwise (fun a b => a.field < b.field) → l'.Pairwise (fun a b => a.field < b.field) → l = l'
  | [], l', h, _, _ => (List.nil_perm.1 h).symm
  | a :: l, [], h, _, _ => absurd (List.perm_nil.1 h) (by simp)
  | a :: l, b :: l', h, h1, h2 => by
    rw [List.pairwise_cons] at h1 h2
    have hab : a = b := by
      rcases List.mem_cons.1 (h.mem_iff.1 (List.mem_cons_self ..)) with e | hm
      · exact e
      · rcases List.mem_cons.1 (h.mem_iff.2 (List.mem_cons_self (a := b) (l := l'))) with e | hm2
        · exact e.symm
        · exact absurd (h2.1 a hm) (by rw [List.not_lt]; exact List.le_of_lt (h1.1 b hm2))
    subst hab
    rw [sorted_unique ((List.perm_cons a).1 h) h1.2 h2.2]
theorem sortI_strict {l : List ItemM} (h : (l.map (·.field)).Nodup) : (sortI l).Pairwise (fun a b => a.field < b.field) := by
  have hp : (sortI l).Perm l := List.mergeSort_perm _ _
  have h1 := sortI_sorted l
  have h2 : ((sortI l).map (·.field)).Nodup := ((hp.map _).nodup_iff).2 h
  unfold List.Nodup at h2
  rw [List.pairwise_map] at h2
  exact (h1.and h2).imp fun {a b} ⟨q1, q2⟩ => by
    rcases List.le_iff_lt_or_eq.mp q1 with q | q
    · exact q
    · exact absurd q q2
theorem sortI_perm {l l' : List ItemM} (h : l.Perm l') (hn : (l.map (·.field)).Nodup) : sortI l = sortI l' := by
  refine sorted_unique ?_ (sortI_strict hn) (sortI_strict (((h.map _).nodup_iff).1 hn))
  exact (List.mergeSort_perm l _).trans (h.trans (List.mergeSort_perm l' _).symm)


theorem ltOf_item {l : List ItemM} (x y : {x : ItemM // x ∈ l}) : ltOf (fun (a b : {x : ItemM // x ∈ l}) => itemCmp a.1 b.1) x y = decide (x.1.field < y.1.field) := by
  unfold ltOf; rw [Bool.eq_iff_iff, decide_eq_true_iff, decide_eq_true_iff]; exact itemCmp_neg _ _
theorem attach_flat (l : List ItemM) : l.attach.flatMap (fun x => itemMC x.1) = l.flatMap itemMC := by
  conv => rhs; rw [← List.attach_map_subtype_val l]
  rw [List.flatMap_map]
theorem sortF_attach (l : List ItemM) : (sortF (fun (a b : {x : ItemM // x ∈ l}) => itemCmp a.1 b.1) l.attach).map (·.1) = sortI l := by
  unfold sortF sortI
  rw [List.map_mergeSort (s := fun x y => decide (x.field ≤ y.field)) (fun a _ b _ => by rw [ltOf_item, ← decide_not]; exact decide_eq_decide.2 (le_iff _ _).symm)]
  rw [List.attach_map_subtype_val]
theorem sortItem_gen (l : List ItemM) (hd : (l.map (·.field)).Nodup) (a : ItemM) (ha : a ∈ l) (X : List Nat) (w : World) (s : List {x : ItemM // x ∈ l}) (A : Option Addr) (c : Nat) (sp : List Value) (hs : St X w [(blkOf A, Cl (s.flatMap (fun x => itemMC x.1) ++ sp) 111)] []) (how : Ow A s.length c 2 (s.flatMap (fun x => itemMC x.1)) sp) (hs62 : s.length < 4611686018427387904) :
    Fn Tryz.prog 83 [.slice A s.length c, .func (.func 84) #[] #[]] w fun v w' => v = .tuple #[] ∧ Ow A s.length c 2 ((sortF (fun (a b : {x : ItemM // x ∈ l}) => itemCmp a.1 b.1) s).flatMap (fun x => itemMC x.1)) sp ∧ (sortF (fun (a b : {x : ItemM // x ∈ l}) => itemCmp a.1 b.1) s).length = s.length ∧ St X w' [(blkOf A, Cl ((sortF (fun (a b : {x : ItemM // x ∈ l}) => itemCmp a.1 b.1) s).flatMap (fun x => itemMC x.1) ++ sp) 111)] [] ∧ Fr (keys [(blkOf A, Cl (s.flatMap (fun x => itemMC x.1) ++ sp) 111)]) w w' := by
  letI : Inhabited {x : ItemM // x ∈ l} := ⟨⟨a, ha⟩⟩
  exact sortFn (α := {x : ItemM // x ∈ l}) (enc := fun x => itemMC x.1) (k := 2) (e := 111) Tryz.laysSortItem (agg_run Ty.ag_111) (run_sizeOf Ty.sz_111) (fun _ => rfl) (by decide) (fun x v hv => by simp only [itemMC, List.mem_cons, List.not_mem_nil, or_false] at hv; rcases hv with rfl | rfl <;> rfl)
      (cf := fun a b => itemCmp a.1 b.1) ⟨fun x => by rw [ltOf_item]; simp, fun x y z h1 h2 => by rw [ltOf_item] at *; simp only [decide_eq_true_eq] at *; exact List.lt_trans h1 h2, fun x y z h1 h2 => by
        rw [ltOf_item] at *; simp only [decide_eq_false_iff_not, List.not_lt] at *; exact List.le_trans h2 h1⟩
      (fun x y h1 h2 => by
        rw [ltOf_item] at h1 h2; simp only [decide_eq_false_iff_not, List.not_lt] at h1 h2
        exact Subtype.ext (nodup_inj hd x.2 y.2 (List.le_antisymm h2 h1))) (g := 84) (cb := []) (enters_run Ty.en_84) Ty.en_83 X w s hs62 A c sp hs how (fun w1 x y _ => mitems1_ok w1 x.1 y.1)
theorem sortItem_ok (X : List Nat) (w : World) (s : List ItemM) (A : Option Addr) (c : Nat) (sp : List Value) (hs : St X w [(blkOf A, Cl (s.flatMap itemMC ++ sp) 111)] []) (how : Ow A s.length c 2 (s.flatMap itemMC) sp) (hs62 : s.length < 4611686018427387904) (t : List ItemM) (hp : s.Perm t) (hd : (s.map (·.field)).Nodup) :
    Fn Tryz.prog 83 [.slice A s.length c, .func (.func 84) #[] #[]] w fun v w' => v = .tuple #[] ∧ Ow A s.length c 2 ((sortI t).flatMap itemMC) sp ∧ (sortI t).length = s.length ∧ St X w' [(blkOf A, Cl ((sortI t).flatMap itemMC ++ sp) 111)] [] ∧ Fr (keys [(blkOf A, Cl (s.flatMap itemMC ++ sp) 111)]) w w' := by
  rw [← sortI_perm hp hd]
  by_cases h0 : s = []
  · subst h0
    have hn : sortI [] = [] := List.eq_nil_of_length_eq_zero (sortI_len [])
    have hn2 : sortF (fun (a b : {x : ItemM // x ∈ [(default : ItemM)]}) => itemCmp a.1 b.1) [] = [] := List.eq_nil_of_length_eq_zero (sortF_len _ [])
    rw [hn]
    have := sortItem_gen [default] (by simp) default (by simp) X w [] A c sp hs how hs62
    rw [hn2] at this
    exact this
  · obtain ⟨a, ha⟩ := List.exists_mem_of_ne_nil s h0
    have hl : s.attach.length = s.length := List.length_attach
    have key := sortItem_gen s hd a ha X w s.attach A c sp (by rw [attach_flat]; exact hs) (by rw [attach_flat, hl]; exact how) (by rw [hl]; exact hs62)
    have e1 : (sortF (fun (a b : {x : ItemM // x ∈ s}) => itemCmp a.1 b.1) s.attach).flatMap (fun x => itemMC x.1) = (sortI s).flatMap itemMC := by
      rw [← sortF_attach s, List.flatMap_map]
    rw [hl] at key
    refine key.mono fun v w' ⟨h1, h2, h3, h4, h5⟩ => ⟨h1, by rw [← e1]; exact h2, sortI_len s, by rw [← e1]; exact h4, by rw [attach_flat] at h5; exact h5⟩


theorem mset_len {α β : Type} [DecidableEq α] : ∀ (m : List (α × β)) (k : α) (v : β), (mset m k v).length ≤ m.length + 1
  | [], k, v => by simp [mset]
  | e :: r, k, v => by
    unfold mset; split
    · simp
    · have := mset_len r k v; simp; omega
theorem items_nodup {es : Array MapEntry} {clock : Nat} {m : List (List UInt8 × PutM)} {ev : PutM → Value} (hM : MOk (fun x : List UInt8 => sv x) ev es clock m) {l : List ItemM} (h : l.Perm (m.map (fun p : List UInt8 × PutM => (⟨p.1, p.2.val⟩ : ItemM)))) : (l.map (·.field)).Nodup := by
  rw [(h.map _).nodup_iff, List.map_map]
  have h1 := hM.st.2.2
  rw [hM.ks, List.map_map] at h1
  refine List.Pairwise.imp ?_ (List.pairwise_map.1 h1) |> (List.pairwise_map.2 ·)
  intro a b hab e
  exact hab (by simpa using congrArg sv e)

set_option maxRecDepth 20000 in
theorem kl_9 : KLaw Tryz.prog 9 (fun x : List UInt8 => sv x) := KLaw.str Tryz.underlying9
def mitems_c1 (s : MapM) (s18 : Int) (mg2 : List ((List UInt8) × PutM)) : Bool :=
  (if ((mget mg2 ((ix s.puts s18).field)).isSome) = true then decide ((mlater_m ((mget mg2 ((ix s.puts s18).field)).getD (⟨(⟨(⟨0, 0⟩ : IdM), 0⟩ : TagM), [], 0, (⟨0, 0⟩ : StampM)⟩ : PutM)) (ix s.puts s18)) < 0) else true)

def mitems_L1 (s : MapM) : Nat → Int → (List ((List UInt8) × PutM)) → ((List ItemM)) ⊕ (Int × (List ((List UInt8) × PutM)))
  | 0, s18, mg2 => .inr (s18, mg2)
  | fuel + 1, s18, mg2 =>
    if s18 < (s.puts.length : Int) then
      if (mitems_c1 s s18 mg2) = true then
        mitems_L1 s fuel (s18 + 1) (mset mg2 ((ix s.puts s18).field) (ix s.puts s18))
      else
        mitems_L1 s fuel (s18 + 1) mg2
    else
      .inr (s18, mg2)
def mitems_m (s : MapM) : (List ItemM) :=
  if (mcheck_m s) = 0 then
    match mitems_L1 s (((s.puts.length : Int) - (0 : Int)).toNat + 1) (0 : Int) ([] : List ((List UInt8) × PutM)) with
    | .inl r => r
    | .inr (s18, mg2) =>
      sortI (mg2.map (fun p : List UInt8 × PutM => (⟨p.1, p.2.val⟩ : ItemM)))
  else
    ([] : List ItemM)

theorem mitems_c1_iff (s : MapM) (s18 : Int) (mg2 : List ((List UInt8) × PutM)) : (mitems_c1 s s18 mg2 = true) ↔ (¬ (((mget mg2 ((ix s.puts s18).field)).isSome) = true) ∨ ((mlater_m ((mget mg2 ((ix s.puts s18).field)).getD (⟨(⟨(⟨0, 0⟩ : IdM), 0⟩ : TagM), [], 0, (⟨0, 0⟩ : StampM)⟩ : PutM)) (ix s.puts s18)) < 0)) := by
  unfold mitems_c1; exact (ci4 decide_eq_true_iff)

set_option maxRecDepth 20000 in
theorem mitems_ok (X : List Nat) (w : World) (hX : Lo X w) (s : MapM) (A2 : Option Addr) (C2 : Nat) (A1 : Option Addr) (C1 : Nat) (z4 : Sld X w A2 s.puts.length C2 7 (s.puts.flatMap putMC)) (z3 : Sld X w A1 s.gone.length C1 3 (s.gone.flatMap tagMC)) (h1 : s.puts.length ≤ 1000000) (h2 : s.gone.length ≤ 1000000) :
    Fn Tryz.prog 36 [.agg #[.slice A2 s.puts.length C2, .slice A1 s.gone.length C1]] w fun v w' => ∃ (Ar : Option Addr) (cr : Nat), v = .slice Ar (mitems_m s).length cr ∧ Sld X w' Ar (mitems_m s).length cr 2 ((mitems_m s).flatMap itemMC) ∧ Fr [] w w' := by
  refine Fn_of 59 Ty.en_36 Tryz.func36 rfl rfl rfl ?_
  dsimp only [argEnv]
  have st := stn2 hX z4 z3
  have hF := Fr.refl ([]) w
  have z2 := (st.q 0 rfl).le
  have z1 := (st.q 1 rfl).le
  refine sq fun _ k1 => rg (La rfl (Sbx st hF rfl fun g1 w1 (st : St _ _ [_] _) hF hg1 => Ls' rfl (Ln k1 (sq fun _ k2 => sq fun _ k3 => rg (Ly rfl (yw 0 Ty.ag_38 st rfl) (La rfl (Scl st hF rfl (mcheck_ok (keys (hOf st) ++ X) _ st.Lo s A2 C2 A1 C1 (st.q 0 rfl) (st.q 1 rfl) h1 h2) fun w2 st hF => Ly rfl (yne rfl) (Ln k3 (cN rfl (fun hc1 => ?_) (fun hc1 => ?_))))))))))
  · refine sq fun _ k4 => rg (Ls' rfl (Ln k4 ?_))
    have st := st.aN 2
    refine Wp_ret (Th_r (Fq_ret (Res1 rfl rfl) ?_))
    unfold mitems_m; rewrite [if_neg hc1]
    exact ⟨_, _, rfl, st.ot 2 rfl, hF⟩
  refine sk k2 (sq fun _ k5 => rg (La rfl (a_mkmap rfl rfl rfl st.hp (fun g2 w3 (hp : Hp w3 [_, _]) hf hg2 => ?_))))
  have st : St X w3 [_, _] [_, _] := st.push hp hf hg2
  have hg2 := Nat.le_trans hF.size hg2
  have hF := hF.step0 hf
  have hmap1 : MOk (fun x : List UInt8 => sv x) (fun x : PutM => Value.agg (putMC x).toArray) #[] 0 ([] : List ((List UInt8) × PutM)) := MOk.empty
  refine Ls' rfl (Ln k5 (sq fun _ k6 => sq fun _ k7 => rg (Ly rfl (yf rfl Ty.fo_38_0) (Ly rfl (yl 0 Ty.pl_36 st rfl) (Ly rfl (yll rfl Tryz.underlying36) (Lm rfl (Ln k7 (Wp_block (lp (fun q E W => ∃ (s18 : Int) (mg2 : List ((List UInt8) × PutM)) (es_mg2 : Array MapEntry) (cl_mg2 : Nat), E = [(3, .map (some g2)), (16, .slice A2 s.puts.length C2), (17, .int .i64 (s.puts.length : Int)), (18, .int .i64 s18)] ∧ jq q (fun m => (mitems_L1 s m s18 mg2 = mitems_L1 s (((s.puts.length : Int) - (0 : Int)).toNat + 1) (0 : Int) ([] : List ((List UInt8) × PutM)) ∧ ((s.puts.length : Int) - s18).toNat < m)) (mitems_L1 s (((s.puts.length : Int) - (0 : Int)).toNat + 1) (0 : Int) ([] : List ((List UInt8) × PutM)) = .inr (s18, mg2)) ∧ (0 ≤ s18 ∧ 0 ≤ s18 ∧ s18 ≤ s.puts.length ∧ (mg2.length : Int) ≤ s18) ∧ MOk (fun x : List UInt8 => sv x) (fun x : PutM => Value.agg (putMC x).toArray) es_mg2 cl_mg2 mg2 ∧ St X W [(some g1, Cl [.slice A2 s.puts.length C2, .slice A1 s.gone.length C1] 38), (some g2, Obj.map es_mg2 cl_mg2)] [kS A2 s.puts.length C2 7 (s.puts.flatMap putMC), kS A1 s.gone.length C1 3 (s.gone.flatMap tagMC)] ∧ Fr ([]) w W) (((s.puts.length : Int) - (0 : Int)).toNat + 1) [(3, _), (16, _), (17, _), (18, _)] ⟨rfl, rfl, rfl, rfl, trivial⟩ ⟨_, _, _, _, rfl, ⟨rfl, Nat.lt_succ_self _⟩, by first | omega | (simp; done) | (simp; omega), hmap1, st, hF⟩ k6 ?_ fun hout1 => ?_)))))))))
  · rintro E w4 ⟨s18, mg2, es_mg2, cl_mg2, rfl, hLk1, hinv, hmapmg2, st, hF⟩
    unfold jq at hLk1; dsimp only at hLk1
    refine sq fun _ k8 => rg (Ls' rfl (Ln k8 (sq fun _ k9 => sq fun _ k10 => rg (Lm rfl (La rfl (a_rangeM (i := 1) rfl rfl rfl rfl Tryz.underlying164 st.hp rfl (fun gr1 w5 (hp : Hp w5 [_, _, _]) hf hg3 => ?_)))))))
    have st : St X w5 [_, _, _] [_, _] := st.push hp hf hg3
    have hg3 := Nat.le_trans hF.size hg3
    have hF := hF.step0 hf
    refine Ln k10 (Wp_block ?_)
    obtain ⟨st, how1, hnew1⟩ := st.rowN itemMC hF 2 111
    have st : St _ _ [_, _, _, _] _ := st
    refine lp (fun q E W => ∃ (s8 : List ItemM) (left : List ((List UInt8) × PutM)) (done : List ((List UInt8) × PutM)) (As8 : Option Addr) (cs8 : Nat) (sps8 : List Value) (seen : Array Nat), E = [(8, .slice As8 s8.length cs8), (43, .pointer (some ⟨gr1, 0, none⟩))] ∧ jq q (fun m => (left.length < m)) (True) ∧ jq q (fun _ => (s8 = done.map (fun p : List UInt8 × PutM => (⟨p.1, p.2.val⟩ : ItemM)))) ((s8.Perm (mg2.map (fun p : List UInt8 × PutM => (⟨p.1, p.2.val⟩ : ItemM))))) ∧ Ow As8 s8.length cs8 2 (s8.flatMap itemMC) sps8 ∧ (∀ g, blkOf As8 = some g → g ∈ ([]) ∨ w.heap.size ≤ g) ∧ Left (fun x : List UInt8 => sv x) (fun x : PutM => Value.agg (putMC x).toArray) es_mg2 seen left ∧ (done ++ left).Perm mg2 ∧ St X W [(some g1, Cl [.slice A2 s.puts.length C2, .slice A1 s.gone.length C1] 38), (some g2, Obj.map es_mg2 cl_mg2), (some gr1, Obj.mapIter (some g2) cl_mg2 seen cl_mg2), (blkOf As8, Cl (s8.flatMap itemMC ++ sps8) 111)] [kS A2 s.puts.length C2 7 (s.puts.flatMap putMC), kS A1 s.gone.length C1 3 (s.gone.flatMap tagMC)] ∧ Fr ([]) w W) (mg2.length + 1) [(8, _), (43, _)] ⟨rfl, rfl, trivial⟩ ⟨([] : List ItemM), mg2, ([] : List ((List UInt8) × PutM)), none, 0, [], (#[]), rfl, Nat.lt_succ_self _, show _ from (by rfl), how1, hnew1, (Left.all hmapmg2), (List.Perm.refl _), st, hF⟩ k9 ?_ fun hout2 => ?_
    · rintro E w6 ⟨s8, left, done, As8, cs8, sps8, seen, rfl, _, hinv, hows8, news8, z7, hpm, st, hF⟩
      unfold jq at hinv; dsimp only at hinv
      refine sq fun _ k11 => rg (Lm rfl ?_)
      have hnd : (s8.map (·.field)).Nodup := items_nodup hmapmg2 hinv
      have hsl : s8.length = mg2.length := by have := hinv.length_eq; simpa using this
      refine La rfl (a_call rfl rfl rfl rfl (sortItem_ok (keys (pickL (hOf st) [0, 1, 2]) ++ X) _ s8 As8 cs8 sps8 (st.sub [0, 1, 2] [3] [] (by decide)) hows8 (by omega) _ hinv hnd) (fun v w7 ⟨hv, how2, hln1, hN1, hfO1⟩ => ?_))
      subst hv
      have st := st.callS [0, 1, 2] [3] (by decide) rfl hN1 hfO1 (fun k hk => .inl (keys1 hk))
      have hF := hF.step hfO1 (kc_b news8 kc_n)
      have how3 : Ow As8 (sortI (mg2.map (fun p : List UInt8 × PutM => (⟨p.1, p.2.val⟩ : ItemM)))).length cs8 2 ((sortI (mg2.map (fun p : List UInt8 × PutM => (⟨p.1, p.2.val⟩ : ItemM)))).flatMap itemMC) sps8 := by rw [hln1]; exact how2
      have st : St X w7 [_, _, _, _] [_, _] := st
      refine Ln k11 (sq fun _ k12 => rg (Lm rfl (Ls' rfl (Ln k12 ?_))))
      rewrite [show s8.length = (sortI (mg2.map (fun p : List UInt8 × PutM => (⟨p.1, p.2.val⟩ : ItemM)))).length from hln1.symm]
      have st : St X w7 [_, _, _] [_, _, _] := st.freeze (i := 3) [0, 1, 2] (by decide) rfl how3 (by decide)
      refine Wp_ret (Fq_ret (Res1 rfl rfl) ?_)
      unfold mitems_m; rewrite [if_pos hc1, hLk1]; (try dsimp only)
      exact ⟨_, _, rfl, st.ot 2 rfl, hF⟩
    rintro m E w8 ⟨s8, left, done, As8, cs8, sps8, seen, rfl, hmu, hinv, hows8, news8, z7, hpm, st, hF⟩
    unfold jq at hinv; dsimp only at hinv
    unfold jq at hmu; dsimp only at hmu
    obtain ⟨fuel, rfl⟩ : ∃ q, m = q + 1 := ⟨m - 1, by omega⟩
    have z5 := Ow.le hows8
    have hs8 : s8.length + left.length = mg2.length := by rw [hinv]; have := hpm.length_eq; simpa using this
    refine sq fun _ k13 => rg (Ls_a (wtd0 rfl) (a_nextM (ir := 2) (im := 1) (left := left) rfl rfl rfl rfl st.hp rfl rfl hmapmg2 z7 (fun hz1 => ?_) (fun p1 left1 seen1 w9 hperm1 z6 hent1 (hp : Hp w9 [_, _, _, _]) hf => ?_)))
    · refine Lx rfl (Ln k13 (sq fun _ k14 => Wp_cond_f rfl (Wp_exit (Th_e (Th_e (Ib_hit (Th_n (?_))))))))
      exact hout2 _ [(8, _), (43, _)] _ ⟨rfl, rfl, trivial⟩ ⟨s8, left, done, As8, cs8, sps8, seen, rfl, trivial, by unfold jq; dsimp only; subst hinv; rw [hz1, List.append_nil] at hpm; exact hpm.map _, hows8, news8, z7, hpm, (st.picks [0, 1, 2, 3] (by decide)).pickK [0, 1], hF⟩
    have st : St X w9 [_, _, _, _] [_, _] := st.set (i := 2) rfl hp hf
    have st : St X w9 [_, _, _, _] [_, _] := st
    have hF := hF.step hf (by intro y hy; simp only [List.mem_cons, List.not_mem_nil, or_false] at hy; subst hy; first | (exact Or.inr (by omega)) | (exact Or.inl (kin0 _ _)) | (exact Or.inl (by simp)))
    have hhperm1 : left1.length + 1 = left.length := hperm1.length_eq
    refine Lx rfl (Ln k13 (sq fun _ k15 => Wp_cond_t rfl (sk k15 (Wp_block (sq fun _ k16 => rg (Ly rfl (y_entryM (ir := 2) (im := 1) rfl rfl (fun _ e => e ▸ st.hp) rfl rfl hmapmg2 hent1) (Lx rfl (Lx rfl (La rfl (Sal Ty.zc_101 st hF rfl fun g3 w10 (st : St _ _ [_, _, _, _, _] _) hF hg4 => Ls' rfl (La rfl (Ssw 4 Ty.sz_101 st hF (.inr hg4) rfl fun w11 (st : St _ _ [_, _, _, _, _] _) hF => Ln k16 (rg (Lm rfl (Lm rfl (Ly rfl (yf rfl Ty.fo_101_2) (Ly rfl (yl 4 Ty.pl_2 st rfl) (Ly rfl (y_build (cells := [_, _]) rfl rfl Ty.zc_111 Ty.ps_111 rfl) (La rfl (Sb (enc := itemMC) (⟨p1.1, p1.2.val⟩ : ItemM) Ty.es_73 Ty.zc_111 (fun _ => rfl) st hF rfl fun g4 w12 how4 hnew2 (st : St _ _ [_, _, _, _, _, _] _) hF => La rfl (Sap (enc := itemMC) s8 [(⟨p1.1, p1.2.val⟩ : ItemM)] 3 Ty.es_73 Ty.zc_111 Ty.by_111 (fun _ => rfl) itemMC_1 hows8 news8 st hF (own_src (i := 5) st.hp rfl how4) (own_none how4) rfl (by first | omega | (simp; done) | (simp; omega)) (by first | omega | (simp; done) | (simp; omega)) fun Aa1 ca1 sp1 w13 how5 hnew3 (st : St _ _ [_, _, _, _, _, _] _) hF => ?_)))))))))))))))))))))
    refine Ls' rfl (Ls_nil (Ib_n (Th_n (?_))))
    exact ⟨fuel, [(8, _), (43, _)], Nat.lt_succ_self _, ⟨rfl, rfl, trivial⟩, (s8 ++ [(⟨p1.1, p1.2.val⟩ : ItemM)]), left1, (done ++ [p1]), Aa1, ca1, sp1, seen1, rfl, show _ < _ by first | omega | (simp; done) | (simp; omega), by unfold jq; dsimp only; subst hinv; simp, how5, hnew3, z6, (by rw [List.append_assoc]; exact (List.Perm.append_left done hperm1).trans hpm), (st.picks [0, 1, 2, 3] (by decide)).pickK [0, 1], hF⟩
  rintro m E w14 ⟨s18, mg2, es_mg2, cl_mg2, rfl, ⟨hL1, hmu⟩, hinv, hmapmg2, st, hF⟩
  obtain ⟨fuel, rfl⟩ : ∃ q, m = q + 1 := ⟨m - 1, by omega⟩
  refine sq fun _ k17 => rg (Ly rfl (ylt rfl) (Ln k17 (sq fun _ k18 => cD rfl (fun hc2 => ?_) (fun hc2 => ?_))))
  · refine sk k18 (sq fun _ k19 => Wp_block (sq fun _ k20 => rg ?_))
    obtain ⟨gi1, bi1, egi1⟩ := (st.k (i := 0) rfl).addr (fun _ => rfl) (by decide) (q := s18) (by first | omega | (simp; done) | (simp; omega)) (by first | omega | (simp; done) | (simp; omega))
    subst egi1
    refine Ly rfl (y_ixa (q := s18) rfl rfl rfl Ty.es_36 (by first | omega | (simp; done) | (simp; omega)) (by first | omega | (simp; done) | (simp; omega))) ?_
    refine Ly rfl (y_ldk (q := s18) rfl rfl Ty.ag_101 (fun _ e => e ▸ st.k (i := 0) rfl) (fun _ => rfl) (by first | omega | (simp; done) | (simp; omega)) (by first | omega | (simp; done) | (simp; omega))) ?_
    refine La rfl (Sal Ty.zc_101 st hF rfl fun g5 w15 (st : St _ _ [_, _, _] _) hF hg6 => La rfl (Ssw 2 Ty.sz_101 st hF (.inr hg6) rfl fun w16 (st : St _ _ [_, _, _] _) hF => Ln k20 (sq fun _ k21 => rg (Lm rfl (Ly rfl (yf rfl Ty.fo_101_1) (Ly rfl (yl 2 Ty.pl_9 st rfl) (Ly rfl (y_lookupOkM (i := 1) (enc := (fun x : List UInt8 => sv x)) (ev := (fun x : PutM => Value.agg (putMC x).toArray)) (k := (ix s.puts s18).field) (z := (⟨(⟨(⟨0, 0⟩ : IdM), 0⟩ : TagM), [], 0, (⟨0, 0⟩ : StampM)⟩ : PutM)) rfl rfl rfl Tryz.underlying164 kl_9 (by kernel_rfl) (fun _ e => e ▸ st.hp) rfl hmapmg2) ?_)))))))
    refine Lm rfl (Lx rfl (Lx rfl (La rfl (Sal Ty.zc_101 st hF rfl fun g6 w17 (st : St _ _ [_, _, _, _] _) hF hg7 => La rfl (Ssw 3 Ty.sz_101 st hF (.inr hg7) rfl fun w18 (st : St _ _ [_, _, _, _] _) hF => Ls' rfl (Ln k21 (sq fun _ k22 => ?_)))))))
    refine use_out k22 (fun E W => E = [(3, .map (some g2)), (5, .pointer (some ⟨g5, 0, none⟩)), (16, .slice (some ⟨gi1, bi1, none⟩) s.puts.length C2), (17, .int .i64 (s.puts.length : Int)), (18, .int .i64 s18), (36, .bool (mitems_c1 s s18 mg2))] ∧ St X W (hOf st) (kOf st) ∧ Fr ([]) w W) ?_ fun hout3 => ?_
    · rintro E w19 ⟨rfl, st, hF⟩
      have st : St X w19 [_, _, _, _] [_, _] := st
      refine cB rfl (fun hc3 => ?_) (fun hc3 => ?_)
      · have jhc3 := (mitems_c1_iff s s18 mg2).1 hc3
        refine rg (Lm rfl (Ly rfl (yf rfl Ty.fo_101_1) (Ly rfl (yl 2 Ty.pl_9 st rfl) (Ly rfl (yw 2 Ty.ag_101 st rfl) (La rfl (a_mapupM (i := 1) (enc := (fun x : List UInt8 => sv x)) (ev := (fun x : PutM => Value.agg (putMC x).toArray)) (k := (ix s.puts s18).field) (u := ix s.puts s18) rfl rfl rfl rfl rfl Tryz.underlying164 kl_9 st.hp rfl hmapmg2 (fun es1 cl1 w20 hmap2 (hp : Hp w20 [_, _, _, _]) hf => ?_)))))))
        have st : St X w20 [_, _, _, _] [_, _] := st.set (i := 1) rfl hp hf
        have st : St X w20 [_, _, _, _] [_, _] := st
        have hF := hF.step hf (by intro y hy; simp only [List.mem_cons, List.not_mem_nil, or_false] at hy; subst hy; first | (exact Or.inr (by omega)) | (exact Or.inl (kin0 _ _)) | (exact Or.inl (by simp)))
        refine Ls_nil (Ib_n (Th_n (k19 _ _ (rg (Ly rfl (y_add (c := s18 + 1) rfl rfl rfl (wf_i64 (by first | omega | (simp; done) | (simp; omega)))) ?_)))))
        refine Lm rfl (Ls_nil (Th_n (?_)))
        exact ⟨fuel, [(3, _), (16, _), (17, _), (18, _)], Nat.lt_succ_self _, ⟨rfl, rfl, rfl, rfl, trivial⟩, (s18 + 1), (mset mg2 ((ix s.puts s18).field) (ix s.puts s18)), es1, cl1, rfl, ⟨by rewrite [← hL1, mitems_L1]; rewrite [if_pos hc2, if_pos hc3]; rfl, by first | omega | (simp; done) | (simp; omega)⟩, by first | omega | (have hml := mset_len mg2 (ix s.puts s18).field (ix s.puts s18); omega), hmap2, (st.picks [0, 1] (by decide)).pickK [0, 1], hF⟩
      have jhc3 := mt (mitems_c1_iff s s18 mg2).2 hc3
      refine Wp_skip (Ib_n (Th_n (k19 _ _ (rg (Ly rfl (y_add (c := s18 + 1) rfl rfl rfl (wf_i64 (by first | omega | (simp; done) | (simp; omega)))) ?_)))))
      refine Lm rfl (Ls_nil (Th_n (?_)))
      exact ⟨fuel, [(3, _), (16, _), (17, _), (18, _)], Nat.lt_succ_self _, ⟨rfl, rfl, rfl, rfl, trivial⟩, (s18 + 1), mg2, es_mg2, cl_mg2, rfl, ⟨by rewrite [← hL1, mitems_L1]; rewrite [if_pos hc2, if_neg hc3]; rfl, by first | omega | (simp; done) | (simp; omega)⟩, by first | omega | (have hml := mset_len mg2 (ix s.puts s18).field (ix s.puts s18); omega), hmapmg2, (st.picks [0, 1] (by decide)).pickK [0, 1], hF⟩
    refine rg (Lm rfl (Ly rfl (yn rfl) (Lm rfl (bBn (s := 31) rfl (fun hc4 => ?_) (fun hc4 => ?_)))))
    · refine LsF rfl (LsF rfl (LsF rfl (LsF rfl (Ly rfl (yT rfl) (Ls_nil (Th_n (?_)))))))
      exact hout3 _ [(3, _), (5, _), (16, _), (17, _), (18, _), (36, _)] _ ⟨rfl, rfl, rfl, rfl, rfl, rfl, trivial⟩ ⟨by unfold mitems_c1; rewrite [if_neg hc4]; rfl, (st.picks [0, 1, 2, 3] (by decide)).pickK [0, 1], hF⟩
    refine LyT rfl (yw 3 Ty.ag_101 st rfl) (LyT rfl (yw 2 Ty.ag_101 st rfl) (LaT rfl (Scl st hF rfl (mlater_ok _ ((mget mg2 ((ix s.puts s18).field)).getD (⟨(⟨(⟨0, 0⟩ : IdM), 0⟩ : TagM), [], 0, (⟨0, 0⟩ : StampM)⟩ : PutM)) (ix s.puts s18)) fun w21 st hF => LyT rfl (ylt rfl) (Ly rfl (yF rfl) (Ls_nil (Th_n (?_)))))))
    exact hout3 _ [(3, _), (5, _), (16, _), (17, _), (18, _), (36, _)] _ ⟨rfl, rfl, rfl, rfl, rfl, rfl, trivial⟩ ⟨by unfold mitems_c1; rewrite [if_pos hc4]; rfl, (st.picks [0, 1, 2, 3] (by decide)).pickK [0, 1], hF⟩
  refine Wp_exit (Th_e (Th_e (Ib_hit (Th_n (?_)))))
  exact hout1 _ [(3, _), (16, _), (17, _), (18, _)] _ ⟨rfl, rfl, rfl, rfl, trivial⟩ ⟨s18, mg2, es_mg2, cl_mg2, rfl, show _ = _ from by rewrite [← hL1, mitems_L1]; rewrite [if_neg hc2]; rfl, by first | omega | (simp; done) | (simp; omega), hmapmg2, (st.picks [0, 1] (by decide)).pickK [0, 1], hF⟩

end Go.Proofs.YtngofknckkiboaaGreatDoor

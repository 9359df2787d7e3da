/- Walks printed by gen2.py out of our own specifications: what the functions named below do. -/
import Derived.Test.YtdckemiebnfjcaaGreatDoorPc
import Derived.Laws.RangeString
import Derived.Lib.OthersKept
import Derived.Lib.TrimU
import Derived.Maps.RangeRun
import Derived.Test.YtdckemiebnfjcaaGreatDoorSc
import Derived.Test.YtdckemiebnfjcaaGreatDoorPl
import Derived.Test.YtdckemiebnfjcaaGreatDoorZ7
section
set_option linter.unusedVariables false
set_option linter.unusedSimpArgs false
namespace Go.Proofs.YtdckemiebnfjcaaGreatDoor
open Go.RowKit
open Go.ChangeMaps (setBlock)
def decR (s : List UInt8) (pos : Int) : Int := ((Utf8.decode ⟨s.toArray⟩ pos.toNat).1 : Int)
def decW (s : List UInt8) (pos : Int) : Int := ((Utf8.decode ⟨s.toArray⟩ pos.toNat).2 : Int)
theorem decW_pos (s : List UInt8) (pos : Int) : 1 ≤ decW s pos := by
  have := Lib.width_pos ⟨s.toArray⟩ pos.toNat
  unfold decW; omega
section
variable [Dfs] {P : Program} {n : Nat} {env : Env} {w : World} {o : Oper} {K : Env → World → Prop} {H : Heap} {s : List UInt8}
theorem a_rangeS {t d : Nat} {x : Operand} (ho : o.op = .range t x) (hd : o.dst = some d) (hn : Nat.blt d n = true) (hx : env.ev x = some (sv s)) (ht : P.underlying t = some .string) (h : Hp w H)
    (hK : ∀ r w', Hp w' (H ++ [(some r, .stringIter ⟨s.toArray⟩ 0)]) → Fr [] w w' → w.heap.size ≤ r → K ((d, .pointer (some ⟨r, 0, none⟩)) :: env) w') : Act1 P n env w o K := by
  refine a_run hd hn (fun a r => ?_) (hK w.heap.size (w.alloc (.stringIter ⟨s.toArray⟩ 0)) (h.alloc _) (Fr.alloc w _) (Nat.le_refl _))
  unfold execOp
  have := run_range_string (P := P) w t ⟨s.toArray⟩ ht
  simp only [ho, r.eval hx, sv, Sem.run_bind, this, Result.andThen_ok]
  rfl
theorem a_nextS {r ir d : Nat} {pos : Int} {x : Operand} (ho : o.op = .next x true) (hd : o.dst = some d) (hn : Nat.blt d n = true) (hx : env.ev x = some (.pointer (some ⟨r, 0, none⟩))) (h : Hp w H) (hir : H[ir]? = some (some r, .stringIter ⟨s.toArray⟩ pos.toNat)) (hp : 0 ≤ pos)
    (h0 : ¬ pos < s.length → K ((d, .tuple #[.bool false]) :: env) w)
    (h1 : ∀ w', pos < s.length → Hp w' (H.set ir (some r, .stringIter ⟨s.toArray⟩ (pos + decW s pos).toNat)) → Fr [r] w w' → K ((d, .tuple #[.bool true, .int .i64 pos, .int .i32 (decR s pos)]) :: env) w') : Act1 P n env w o K := by
  have hs : (⟨s.toArray⟩ : ByteArray).size = s.length := by simp [ByteArray.size]
  by_cases hc : pos < s.length
  · have hr := Lib.run_next_any_at (P := P) w r ⟨s.toArray⟩ pos.toNat o.type (h.at hir) (by rw [hs]; omega)
    have hw := decW_pos s pos
    have e1 : (pos + decW s pos).toNat = pos.toNat + (Utf8.decode ⟨s.toArray⟩ pos.toNat).2 := by unfold decW; omega
    have e2 : ((pos.toNat : Nat) : Int) = pos := by omega
    have hf : Fr [r] w (setBlock w r (.stringIter ⟨s.toArray⟩ (pos + decW s pos).toNat)) := Fr.setBlock w r _
    refine a_run hd hn (fun a q => ?_) (h1 (setBlock w r (.stringIter ⟨s.toArray⟩ (pos + decW s pos).toNat)) hc (h.setAt hir hf (setBlock_at (heap_lt (h.at hir)))) hf)
    unfold execOp
    simp only [ho, q.eval hx, Sem.run_bind, hr, Result.andThen_ok]
    rw [e1, e2]
    rfl
  · have hr := Lib.run_next_end_at (P := P) w r ⟨s.toArray⟩ pos.toNat o.type (h.at hir) (by rw [hs]; omega)
    refine a_run hd hn (fun a q => ?_) (h0 hc)
    unfold execOp
    simp only [ho, q.eval hx, Sem.run_bind, hr, Result.andThen_ok]
    rfl
end
end Go.Proofs.YtdckemiebnfjcaaGreatDoor
end

section
set_option linter.unusedSimpArgs false
set_option linter.unusedVariables false
set_option maxRecDepth 20000
namespace Go.Proofs.YtdckemiebnfjcaaGreatDoor
open Go.RowKit
def sindex_L1 (s : List UInt8) (f : Int → Bool) (truth : Bool) : Nat → Int → (Int) ⊕ (Int)
  | 0, pgr1 => .inr (pgr1)
  | fuel + 1, pgr1 =>
    if pgr1 < (s.length : Int) then
      if (f (decR s pgr1)) = truth then
        .inl pgr1
      else
        sindex_L1 s f truth fuel (pgr1 + decW s pgr1)
    else
      .inr (pgr1)
def sindex_m (s : List UInt8) (f : Int → Bool) (truth : Bool) : Int :=
  match sindex_L1 s f truth (((s.length : Int) - (0 : Int)).toNat + 1) (0 : Int) with
  | .inl r => r
  | .inr (pgr1) =>
    (-1)
theorem sindex_ok (w : World) (s : List UInt8) (f1 : Value) (f : Int → Bool) (truth : Bool) (z1 : ∀ (w1 : World) (x0 : Int), Fr ([]) w w1 → FnV Tryz.prog f1 [.int .i32 x0] w1 fun v w2 => v = .bool (f x0) ∧ Fr [] w1 w2) :
    Fn Tryz.prog 107 [sv s, f1, .bool truth] w fun v w' => v = .int .i64 (sindex_m s f truth) ∧ Fr [] w w' := by
  refine Fn_of 21 Ty.en_107 Tryz.func107 rfl rfl rfl ?_
  dsimp only [argEnv]
  have st := stn0 (X := []) (w := w) (by simp [Lo])
  have hF := Fr.refl ([]) w
  refine sq fun _ k1 => rg (Ls' rfl (Ln k1 (sq fun _ k2 => sq fun _ k3 => rg (Lm rfl (La rfl (a_rangeS (s := s) rfl rfl rfl rfl Tryz.underlying9 st.hp (fun gr1 w1 (hp : Hp w1 [_]) hf hg1 => ?_)))))))
  have st : St [] w1 [_] [] := st.push hp hf hg1
  have hg1 := Nat.le_trans hF.size hg1
  have hF := hF.step0 hf
  refine Ln k3 (Wp_block (lp (fun q E W => ∃ (pgr1 : Int), E = [(1, f1), (2, .bool truth), (10, .pointer (some ⟨gr1, 0, none⟩))] ∧ jq q (fun m => (sindex_L1 s f truth m pgr1 = sindex_L1 s f truth (((s.length : Int) - (0 : Int)).toNat + 1) (0 : Int) ∧ ((s.length : Int) - pgr1).toNat < m)) (sindex_L1 s f truth (((s.length : Int) - (0 : Int)).toNat + 1) (0 : Int) = .inr (pgr1)) ∧ (0 ≤ pgr1) ∧ St [] W [(some gr1, Obj.stringIter ⟨s.toArray⟩ pgr1.toNat)] [] ∧ Fr ([]) w W) (((s.length : Int) - (0 : Int)).toNat + 1) [(1, _), (2, _), (10, _)] ⟨rfl, rfl, rfl, trivial⟩ ⟨_, rfl, ⟨rfl, Nat.lt_succ_self _⟩, by first | omega | (simp; done) | (simp; omega), st, hF⟩ k2 ?_ fun hout1 => ?_))
  · rintro E w2 ⟨pgr1, rfl, hLk1, hinv, st, hF⟩
    unfold jq at hLk1; dsimp only at hLk1
    refine sq fun _ k4 => rg (Ls' rfl (Ln k4 (wR (fR (Res1 rfl rfl) ?_))))
    unfold sindex_m; rewrite [hLk1]; (try dsimp only)
    exact ⟨rfl, hF⟩
  rintro m E w3 ⟨pgr1, rfl, ⟨hL1, hmu⟩, hinv, st, hF⟩
  obtain ⟨fuel, rfl⟩ : ∃ q, m = q + 1 := ⟨m - 1, by omega⟩
  refine sq fun _ k5 => rg ?_
  have hdw1 := decW_pos s pgr1
  refine Ls_a (wtd0 rfl) (a_nextS (ir := 0) (s := s) (pos := pgr1) rfl rfl rfl rfl st.hp rfl (by omega) (fun hc1 => ?_) (fun w4 hc1 (hp : Hp w4 [_]) hf => ?_))
  · refine Lx rfl (Ln k5 (sq fun _ k6 => Wp_cond_f rfl (Wp_exit (Th_e (Th_e (Ib_hit (Th_n (?_))))))))
    exact hout1 _ [(1, _), (2, _), (10, _)] _ ⟨rfl, rfl, rfl, trivial⟩ ⟨pgr1, rfl, show _ = _ from by rewrite [← hL1, sindex_L1]; rewrite [iN hc1]; rfl, by first | omega | (simp; done) | (simp; omega), (st.pk [0] (by decide)).pickK [], hF⟩
  have st : St [] w4 [_] [] := st.set (i := 0) rfl hp hf
  have st : St [] w4 [_] [] := st
  have hF := hF.step hf (by intro y hy; simp only [List.mem_cons, List.not_mem_nil, or_false] at hy; subst hy; first | (exact Or.inr (by omega)) | (exact Or.inl (kin0 _ _)) | (exact Or.inl (by simp)))
  refine Lx rfl (Ln k5 (sq fun _ k7 => Wp_cond_t rfl (sk k7 (Wp_block (sq fun _ k8 => rg (Lx rfl (Lx rfl (Ls' rfl (Ls' rfl (Ln k8 (sq fun _ k9 => rg (Lm rfl (Lm rfl (La rfl (Scv st hF rfl (z1 _ (decR s pgr1) hF) fun w5 st hF => Lm rfl (Ly rfl (y_eqb rfl rfl rfl Tryz.underlying4) (Ln k9 (cE rfl (fun hc2 => ?_) (fun hc2 => ?_)))))))))))))))))))
  · refine sq fun _ k10 => rg (Lm rfl (Ls' rfl (Ln k10 (wR (Ib_r (Th_r (Ib_r (Th_r (fR (Res1 rfl rfl) ?_)))))))))
    have hret1 : sindex_L1 s f truth (((s.length : Int) - (0 : Int)).toNat + 1) (0 : Int) = .inl pgr1 := by rewrite [← hL1, sindex_L1]; rewrite [iP hc1, iP hc2]; rfl
    have he2 : sindex_m s f truth = pgr1 := by unfold sindex_m; rewrite [hret1]; (try dsimp only); all_goals rfl
    rewrite [he2]
    exact ⟨rfl, hF⟩
  refine Wp_skip (Ib_n (Th_n (?_)))
  exact ⟨fuel, [(1, _), (2, _), (10, _)], Nat.lt_succ_self _, ⟨rfl, rfl, rfl, trivial⟩, (pgr1 + decW s pgr1), rfl, ⟨by rewrite [← hL1, sindex_L1]; rewrite [iP hc1, iN hc2]; rfl, by first | omega | (simp; done) | (simp; omega)⟩, by first | omega | (simp; done) | (simp; omega), (st.pk [0] (by decide)).pickK [], hF⟩
def sIndex_m (s : List UInt8) (f : Int → Bool) : Int :=
  sindex_m s f true
theorem sIndex_ok (w : World) (s : List UInt8) (f1 : Value) (f : Int → Bool) (z1 : ∀ (w1 : World) (x0 : Int), Fr ([]) w w1 → FnV Tryz.prog f1 [.int .i32 x0] w1 fun v w2 => v = .bool (f x0) ∧ Fr [] w1 w2) :
    Fn Tryz.prog 57 [sv s, f1] w fun v w' => v = .int .i64 (sIndex_m s f) ∧ Fr [] w w' := by
  refine Fn_of 8 Ty.en_57 Tryz.func57 rfl rfl rfl ?_
  dsimp only [argEnv]
  have st := stn0 (X := []) (w := w) (by simp [Lo])
  have hF := Fr.refl ([]) w
  refine sq fun _ k1 => rg (Ls' rfl (Ln k1 (sq fun _ k2 => rg (Lm rfl (Lm rfl (La rfl (Scl st hF rfl (sindex_ok _ s f1 f true (fun w1 x0 hw => z1 w1 x0 (hF.step0 hw))) fun w1 st hF => Ls' rfl (Ln k2 (wR (fR (Res1 rfl rfl) ?_))))))))))
  unfold sIndex_m
  exact ⟨rfl, hF⟩
def inPart_m (c : Int) : Bool :=
  if 97 ≤ c then
    if c ≤ 122 then
      true
    else
      if 48 ≤ c then
        decide (c ≤ 57)
      else
        false
  else
    if 48 ≤ c then
      decide (c ≤ 57)
    else
      false
theorem inPart_ok (w : World) (c : Int) :
    Fn Tryz.prog 59 [.int .u8 c] w fun v w' => v = .bool (inPart_m c) ∧ Fr [] w w' := by
  refine Fn_of 17 Ty.en_59 Tryz.func59 rfl rfl rfl ?_
  dsimp only [argEnv]
  have st := stn0 (X := []) (w := w) (by simp [Lo])
  have hF := Fr.refl ([]) w
  refine sq fun _ k1 => rg (Ls' rfl (Ln k1 (sq fun _ k2 => rg (Lm rfl (Ly rfl (yge rfl) (Lm rfl (bD (s := 5) rfl (fun hc1 => ?_) (fun hc1 => ?_))))))))
  · refine LyT rfl (y_move rfl rfl) (LyT rfl (yle rfl) (Ly rfl (yT rfl) (Lm rfl (bD (s := 9) rfl (fun hc2 => ?_) (fun hc2 => ?_)))))
    · refine LsF rfl (LsF rfl (LsF rfl (LsU rfl (LsU rfl (LsF rfl (Ly rfl (yT rfl) (Ls' rfl (Ln k2 (wR (fR (Res1 rfl rfl) ?_))))))))))
      unfold inPart_m; rewrite [iP hc1, iP hc2]
      exact ⟨rfl, hF⟩
    refine LyT rfl (y_move rfl rfl) (LyT rfl (yge rfl) (LyT rfl (y_move rfl rfl) (bD (s := 12) rfl (fun hc3 => ?_) (fun hc3 => ?_))))
    · refine LyT rfl (y_move rfl rfl) (LyT rfl (yle rfl) (LyT rfl (yT rfl) (Ly rfl (yF rfl) (Ls' rfl (Ln k2 (wR (fR (Res1 rfl rfl) ?_)))))))
      unfold inPart_m; rewrite [iP hc1, iN hc2, iP hc3]
      exact ⟨rfl, hF⟩
    refine LsF rfl (LsF rfl (LyT rfl (yF rfl) (Ly rfl (yF rfl) (Ls' rfl (Ln k2 (wR (fR (Res1 rfl rfl) ?_)))))))
    unfold inPart_m; rewrite [iP hc1, iN hc2, iN hc3]
    exact ⟨rfl, hF⟩
  refine LsF rfl (LsF rfl (Ly rfl (yF rfl) (Lm rfl (LyT rfl (y_move rfl rfl) (LyT rfl (yge rfl) (LyT rfl (y_move rfl rfl) (bD (s := 12) rfl (fun hc4 => ?_) (fun hc4 => ?_))))))))
  · refine LyT rfl (y_move rfl rfl) (LyT rfl (yle rfl) (LyT rfl (yT rfl) (Ly rfl (yF rfl) (Ls' rfl (Ln k2 (wR (fR (Res1 rfl rfl) ?_)))))))
    unfold inPart_m; rewrite [iN hc1, iP hc4]
    exact ⟨rfl, hF⟩
  refine LsF rfl (LsF rfl (LyT rfl (yF rfl) (Ly rfl (yF rfl) (Ls' rfl (Ln k2 (wR (fR (Res1 rfl rfl) ?_)))))))
  unfold inPart_m; rewrite [iN hc1, iN hc4]
  exact ⟨rfl, hF⟩
def okey1_m (c : Int) : Bool :=
  if 127 < c then
    true
  else
    !(inPart_m (c % 256))
theorem okey1_ok (w : World) (c : Int) :
    Fn Tryz.prog 58 [.int .i32 c] w fun v w' => v = .bool (okey1_m c) ∧ Fr [] w w' := by
  refine Fn_of 11 Ty.en_58 Tryz.func58 rfl rfl rfl ?_
  dsimp only [argEnv]
  have st := stn0 (X := []) (w := w) (by simp [Lo])
  have hF := Fr.refl ([]) w
  refine sq fun _ k1 => rg (Ls' rfl (Ln k1 (sq fun _ k2 => rg (Lm rfl (Ly rfl (ygt rfl) (Lm rfl (bD (s := 5) rfl (fun hc1 => ?_) (fun hc1 => ?_))))))))
  · refine LsF rfl (LsF rfl (LsF rfl (LsF rfl (Ly rfl (yT rfl) (Ls' rfl (Ln k2 (wR (fR (Res1 rfl rfl) ?_))))))))
    unfold okey1_m; rewrite [iP hc1]
    exact ⟨rfl, hF⟩
  refine LyT rfl (y_move rfl rfl) (LyT rfl (y_cvi (c := c % 256) rfl rfl Tryz.underlying21 Tryz.underlying5 wm_u8) (LaT rfl (Scl st hF rfl (inPart_ok _ (c % 256)) fun w1 st hF => LyT rfl (yn rfl) (Ly rfl (yF rfl) (Ls' rfl (Ln k2 (wR (fR (Res1 rfl rfl) ?_))))))))
  unfold okey1_m; rewrite [iN hc1]
  exact ⟨rfl, hF⟩
open Go.Lib in
theorem cellF {w w' : World} {a : Addr} {v : Value} (h : Fr [] w w') (hm : w.cell? a = some v) : w'.cell? a = some v := by rw [h.cell (cell_blk hm) (by simp)]; exact hm
def split_m (s sep : List UInt8) : List (List UInt8) := Lib.split s sep
theorem fl1 {α : Type} (f : α → Value) (l : List α) : l.flatMap (fun x => [f x]) = l.map f := by
  induction l with
  | nil => rfl
  | cons a l ih => rw [List.flatMap_cons, ih]; rfl
theorem split_len {s sep : List UInt8} (h1 : 1 ≤ sep.length) : (split_m s sep).length = Lib.count s sep + 1 := by
  have := Lib.splitB_all ⟨sep.toArray⟩ (by simpa [ByteArray.size] using h1) 0 (Lib.count s sep) ⟨s.toArray⟩ (by simp)
  have h2 := congrArg List.length (Lib.splitB_data ⟨sep.toArray⟩ 0 (Lib.count s sep) ⟨s.toArray⟩)
  rw [List.length_map, this] at h2
  unfold split_m Lib.split
  simpa using h2.symm
theorem split_ok (X : List Nat) (w : World) (hX : Lo X w) (s sep : List UInt8) (mx : Int) (hm : w.cell? ⟨0, 0, none⟩ = some (.int .i64 mx)) (hs : s.length ≤ 1000000) (h1 : 1 ≤ sep.length) :
    Fn Tryz.prog 56 [sv s, sv sep] w fun v w' => ∃ (A : Option Addr) (c : Nat), v = .slice A (split_m s sep).length c ∧ Sld X w' A (split_m s sep).length c 1 ((split_m s sep).flatMap (fun x => [sv x])) ∧ Fr [] w w' := by
  refine ⟨by kernel_rfl, ((Tryz.strings_Split ⟨s.toArray⟩ ⟨sep.toArray⟩ mx w (by simp [ByteArray.size]; omega) hm (by simpa [ByteArray.size] using h1)).mono ?_)⟩
  rintro e w' ⟨rfl, rfl⟩
  have hlen := split_len (s := s) h1
  have hcells : ((Lib.splitB ⟨sep.toArray⟩ 0 (Lib.countB ⟨s.toArray⟩ ⟨sep.toArray⟩) ⟨s.toArray⟩).map Value.string) = (split_m s sep).flatMap (fun x => [sv x]) := by
    rw [fl1]
    have h2 := Lib.splitB_data ⟨sep.toArray⟩ 0 (Lib.count s sep) ⟨s.toArray⟩
    have : split_m s sep = (Lib.splitB ⟨sep.toArray⟩ 0 (Lib.count s sep) ⟨s.toArray⟩).map (·.data.toList) := by rw [h2]; rfl
    rw [this, List.map_map]
    show _ = _
    apply List.map_congr_left
    intro x _
    cases x
    simp [Function.comp]
  refine ⟨_, rfl, some ⟨w.heap.size, 0, none⟩, Lib.count s sep + 1, ?_, ?_, Fr.alloc w _⟩
  · rw [hlen]
  have hcount : Lib.count s sep ≤ s.length := by
    have := Lib.countB_le ⟨sep.toArray⟩ (by simpa [ByteArray.size] using h1) s.length ⟨s.toArray⟩ (by simp [ByteArray.size])
    simpa [ByteArray.size] using this
  refine ⟨?_, fl_len (enc := fun x => [sv x]) (m := 1) (fun _ => rfl) _, by rw [hlen]; exact Nat.le_refl _, by unfold maxLen; omega⟩
  intro j v hj
  refine ⟨w.heap.size, 0, rfl, fun hx => ?_, ?_⟩
  · have := hX _ hx; omega
  · rw [Nat.zero_add, hcells]
    unfold World.cell?
    simp only [heap_alloc_new]
    simpa using hj
def okey_c1 (s : List UInt8) (s14 : Int) : Bool :=
  (if (ix (split_m s [47]) s14) = [] then true else decide (0 ≤ (sIndex_m (ix (split_m s [47]) s14) okey1_m)))
def okey_L1 (s : List UInt8) : Nat → Int → (Int × Int) ⊕ (Int)
  | 0, s14 => .inr (s14)
  | fuel + 1, s14 =>
    if s14 < ((split_m s [47]).length : Int) then
      if (okey_c1 s s14) = true then
        .inl (0, 3)
      else
        okey_L1 s fuel (s14 + 1)
    else
      .inr (s14)
def okey_m (s : List UInt8) : Int × Int :=
  if 24 < (s.length : Int) then
    (0, 8)
  else
    match okey_L1 s ((((split_m s [47]).length : Int) - (0 : Int)).toNat + 1) (0 : Int) with
    | .inl r => r
    | .inr (s14) =>
      if ((ix (ix (split_m s [47]) (((split_m s [47]).length : Int) - 1)) 0).toNat : Int) = 114 then
        (1, 0)
      else
        if ((ix (ix (split_m s [47]) (((split_m s [47]).length : Int) - 1)) 0).toNat : Int) = 99 then
          (2, 0)
        else
          if ((ix (ix (split_m s [47]) (((split_m s [47]).length : Int) - 1)) 0).toNat : Int) = 115 then
            (3, 0)
          else
            if ((ix (ix (split_m s [47]) (((split_m s [47]).length : Int) - 1)) 0).toNat : Int) = 109 then
              (4, 0)
            else
              (0, 5)
theorem okey_c1_iff (s : List UInt8) (s14 : Int) : (okey_c1 s s14 = true) ↔ (((ix (split_m s [47]) s14) = []) ∨ (0 ≤ (sIndex_m (ix (split_m s [47]) s14) okey1_m))) := by
  unfold okey_c1; exact (ci1 decide_eq_true_iff)
theorem okey_done (s : List UInt8) {q : Int} (h : okey_L1 s ((((split_m s [47]).length : Int) - (0 : Int)).toNat + 1) (0 : Int) = .inr q) : ∀ j : Int, 0 ≤ j → j < (split_m s [47]).length → ¬ ix (split_m s [47]) j = [] := by
  rcases loop_ix ((split_m s [47]).length : Int) (fun i => !okey_c1 s i) (0, 3) (okey_L1 s) 0 (fun fuel i _ => by rw [okey_L1]; by_cases h : okey_c1 s i = true <;> simp [h]) ((((split_m s [47]).length : Int) - (0 : Int)).toNat + 1) 0 (by omega) (by omega) with ⟨_, b⟩ | ⟨a, _⟩
  · intro j h0 h1 hq
    have h3 := b j h0 h1
    have h2 := (okey_c1_iff s j).2 (.inl hq)
    rw [h2] at h3; cases h3
  · rw [a] at h; cases h
theorem okey_ok (X : List Nat) (w : World) (hX : Lo X w) (s : List UInt8) (mx : Int) (hmx : w.cell? ⟨0, 0, none⟩ = some (.int .i64 mx)) :
    Fn Tryz.prog 17 [sv s] w fun v w' => v = .tuple #[.int .i64 ((okey_m s).1), .int .i64 ((okey_m s).2)] ∧ Fr [] w w' := by
  refine Fn_of 41 Ty.en_17 Tryz.func17 rfl rfl rfl ?_
  dsimp only [argEnv]
  have st := stn0 hX
  have hF := Fr.refl ([]) w
  refine sq fun _ k1 => rg (Ls' rfl (Ls' rfl (Ln k1 (sq fun _ k2 => sq fun _ k3 => rg (Lm rfl (Ly rfl (y_lens rfl rfl Tryz.underlying9) (Ly rfl (ygt rfl) (Ln k3 (cD rfl (fun hc1 => ?_) (fun hc1 => ?_))))))))))
  · refine sq fun _ k4 => rg (Ls' rfl (Ls' rfl (Ln k4 (wR (Th_r (fR (Res2 rfl rfl rfl) ?_))))))
    unfold okey_m; rewrite [iP hc1]
    exact ⟨rfl, hF⟩
  refine sk k2 (sq fun _ k5 => rg (Lm rfl (La rfl (a_call rfl rfl rfl rfl (split_ok (keys (hOf st) ++ X) _ st.Lo s [47] mx (cellF hF hmx) (by omega) (by decide)) (fun v w1 ⟨Ar1, cr1, hv, hr1, hf⟩ => ?_)))))
  subst hv
  have st := st.keep0 hf
  have hF := hF.step0 hf
  have z1 := Sld.le hr1
  have st := st.addK (kS Ar1 (split_m s [47]).length cr1 1 ((split_m s [47]).flatMap (fun x => [sv x]))) hr1
  have st : St X w1 [] [_] := st
  refine Ls' rfl (Ln k5 (sq fun _ k6 => sq fun _ k7 => rg (Lm rfl (Ly rfl (yll rfl Tryz.underlying134) (Lm rfl (Ln k7 (Wp_block (lp (fun q E W => ∃ (s14 : Int), E = [(4, .slice Ar1 ((split_m s [47]).length) cr1), (12, .slice Ar1 ((split_m s [47]).length) cr1), (13, .int .i64 ((split_m s [47]).length : Int)), (14, .int .i64 s14)] ∧ jq q (fun m => (okey_L1 s m s14 = okey_L1 s ((((split_m s [47]).length : Int) - (0 : Int)).toNat + 1) (0 : Int) ∧ (((split_m s [47]).length : Int) - s14).toNat < m)) (okey_L1 s ((((split_m s [47]).length : Int) - (0 : Int)).toNat + 1) (0 : Int) = .inr (s14)) ∧ (0 ≤ s14) ∧ St X W [] [kS Ar1 (split_m s [47]).length cr1 1 ((split_m s [47]).flatMap (fun x => [sv x]))] ∧ Fr ([]) w W) ((((split_m s [47]).length : Int) - (0 : Int)).toNat + 1) [(4, _), (12, _), (13, _), (14, _)] ⟨rfl, rfl, rfl, rfl, trivial⟩ ⟨_, rfl, ⟨rfl, Nat.lt_succ_self _⟩, by first | omega | (simp; done) | (simp; omega), st, hF⟩ k6 ?_ fun hout1 => ?_))))))))
  · rintro E w2 ⟨s14, rfl, hLk1, hinv, st, hF⟩
    unfold jq at hLk1; dsimp only at hLk1
    have hdone := okey_done s hLk1
    have hsl := split_len (s := s) (sep := [47]) (by decide)
    have hlast := hdone (((split_m s [47]).length : Int) - 1) (by omega) (by omega)
    have hlast2 : 0 < (ix (split_m s [47]) (((split_m s [47]).length : Int) - 1)).length := List.length_pos_iff.2 hlast
    refine sq fun _ k8 => sq fun _ k9 => rg (Lm rfl (Lm rfl (Ly rfl (yll rfl Tryz.underlying134) (Ly rfl (y_sub (c := ((split_m s [47]).length : Int) - 1) rfl rfl rfl (wf_i64 (by first | omega | (simp; done) | (simp; omega)))) ?_))))
    obtain ⟨gi1, bi1, egi1⟩ := (st.k (i := 0) rfl).addr (fun _ => rfl) (by decide) (q := ((split_m s [47]).length : Int) - 1) (by first | omega | (simp; done) | (simp; omega)) (by first | omega | (simp; done) | (simp; omega))
    subst egi1
    refine Ly rfl (y_ixa (q := ((split_m s [47]).length : Int) - 1) rfl rfl rfl Ty.es_134 (by first | omega | (simp; done) | (simp; omega)) (by first | omega | (simp; done) | (simp; omega))) ?_
    refine Ly rfl (y_ldk1 (q := ((split_m s [47]).length : Int) - 1) 0 rfl rfl Ty.pl_9 (fun _ e => e ▸ st.k (i := 0) rfl) (fun _ => rfl) (by first | omega | (simp; done) | (simp; omega)) (by first | omega | (simp; done) | (simp; omega)) rfl) ?_
    refine Ly rfl (y_ixs2 (q := 0) rfl rfl rfl Tryz.underlying9 (by first | omega | (simp; done) | (simp; omega)) (by first | omega | (simp; done) | (simp; omega))) ?_
    refine Ln k9 (Wp_block (sq fun _ k10 => rg (Ly rfl (yeq rfl) (Ls' rfl (Ln k10 (cE rfl (fun hc2 => ?_) (fun hc2 => ?_)))))))
    · refine sq fun _ k11 => rg (Ls' rfl (Ls' rfl (Ln k11 (wR (Ib_r (Th_r (fR (Res2 rfl rfl rfl) ?_)))))))
      unfold okey_m; rewrite [iN hc1, hLk1]; (try dsimp only); rewrite [iP hc2]
      exact ⟨rfl, hF⟩
    refine sq fun _ k12 => rg (Ly rfl (yeq rfl) (Ls' rfl (Ln k12 (cE rfl (fun hc3 => ?_) (fun hc3 => ?_)))))
    · refine sq fun _ k13 => rg (Ls' rfl (Ls' rfl (Ln k13 (wR (Ib_r (Th_r (fR (Res2 rfl rfl rfl) ?_)))))))
      unfold okey_m; rewrite [iN hc1, hLk1]; (try dsimp only); rewrite [iN hc2, iP hc3]
      exact ⟨rfl, hF⟩
    refine sq fun _ k14 => rg (Ly rfl (yeq rfl) (Ls' rfl (Ln k14 (cE rfl (fun hc4 => ?_) (fun hc4 => ?_)))))
    · refine sq fun _ k15 => rg (Ls' rfl (Ls' rfl (Ln k15 (wR (Ib_r (Th_r (fR (Res2 rfl rfl rfl) ?_)))))))
      unfold okey_m; rewrite [iN hc1, hLk1]; (try dsimp only); rewrite [iN hc2, iN hc3, iP hc4]
      exact ⟨rfl, hF⟩
    refine sq fun _ k16 => rg (Ly rfl (yeq rfl) (Ls' rfl (Ln k16 (cE rfl (fun hc5 => ?_) (fun hc5 => ?_)))))
    · refine sq fun _ k17 => rg (Ls' rfl (Ls' rfl (Ln k17 (wR (Ib_r (Th_r (fR (Res2 rfl rfl rfl) ?_)))))))
      unfold okey_m; rewrite [iN hc1, hLk1]; (try dsimp only); rewrite [iN hc2, iN hc3, iN hc4, iP hc5]
      exact ⟨rfl, hF⟩
    refine Wp_skip (Ib_n (Th_n (k8 _ _ (sq fun _ k18 => rg (Ls' rfl (Ls' rfl (Ln k18 (wR (fR (Res2 rfl rfl rfl) ?_)))))))))
    unfold okey_m; rewrite [iN hc1, hLk1]; (try dsimp only); rewrite [iN hc2, iN hc3, iN hc4, iN hc5]
    exact ⟨rfl, hF⟩
  rintro m E w3 ⟨s14, rfl, ⟨hL1, hmu⟩, hinv, st, hF⟩
  obtain ⟨fuel, rfl⟩ : ∃ q, m = q + 1 := ⟨m - 1, by omega⟩
  refine sq fun _ k19 => rg (Ly rfl (ylt rfl) (Ln k19 (sq fun _ k20 => cD rfl (fun hc6 => ?_) (fun hc6 => ?_))))
  · refine sk k20 (sq fun _ k21 => Wp_block (sq fun _ k22 => rg ?_))
    obtain ⟨gi2, bi2, egi2⟩ := (st.k (i := 0) rfl).addr (fun _ => rfl) (by decide) (q := s14) (by first | omega | (simp; done) | (simp; omega)) (by first | omega | (simp; done) | (simp; omega))
    subst egi2
    refine Ly rfl (y_ixa (q := s14) rfl rfl rfl Ty.es_134 (by first | omega | (simp; done) | (simp; omega)) (by first | omega | (simp; done) | (simp; omega))) ?_
    refine Ly rfl (y_ldk1 (q := s14) 0 rfl rfl Ty.pl_9 (fun _ e => e ▸ st.k (i := 0) rfl) (fun _ => rfl) (by first | omega | (simp; done) | (simp; omega)) (by first | omega | (simp; done) | (simp; omega)) rfl) ?_
    refine Ls' rfl (Ln k22 (sq fun _ k23 => ?_))
    refine use_out k23 (fun E W => E = [(4, .slice (some ⟨gi2, bi2, none⟩) ((split_m s [47]).length) cr1), (12, .slice (some ⟨gi2, bi2, none⟩) ((split_m s [47]).length) cr1), (13, .int .i64 ((split_m s [47]).length : Int)), (14, .int .i64 s14), (24, .bool (okey_c1 s s14))] ∧ St X W (hOf st) (kOf st) ∧ Fr ([]) w W) ?_ fun hout2 => ?_
    · rintro E w4 ⟨rfl, st, hF⟩
      have st : St X w4 [] [_] := st
      refine cB rfl (fun hc7 => ?_) (fun hc7 => ?_)
      · have jhc7 := (okey_c1_iff s s14).1 hc7
        refine sq fun _ k24 => rg (Ls' rfl (Ls' rfl (Ln k24 (wR (Ib_r (Th_r (Th_r (Ib_r (Th_r (fR (Res2 rfl rfl rfl) ?_))))))))))
        have hret1 : okey_L1 s ((((split_m s [47]).length : Int) - (0 : Int)).toNat + 1) (0 : Int) = .inl (0, 3) := by rewrite [← hL1, okey_L1]; rewrite [iP hc6, iP hc7]; rfl
        have he7 : okey_m s = (0, 3) := by unfold okey_m; rewrite [iN hc1, hret1]; (try dsimp only); all_goals rfl
        rewrite [he7]
        exact ⟨rfl, hF⟩
      have jhc7 := mt (okey_c1_iff s s14).2 hc7
      refine Wp_skip (Ib_n (Th_n (k21 _ _ (rg (Ly rfl (y_add (c := s14 + 1) rfl rfl rfl (wf_i64 (by first | omega | (simp; done) | (simp; omega)))) ?_)))))
      refine Lm rfl (Ls_nil (Th_n (?_)))
      exact ⟨fuel, [(4, _), (12, _), (13, _), (14, _)], Nat.lt_succ_self _, ⟨rfl, rfl, rfl, rfl, trivial⟩, (s14 + 1), rfl, ⟨by rewrite [← hL1, okey_L1]; rewrite [iP hc6, iN hc7]; rfl, by first | omega | (simp; done) | (simp; omega)⟩, by first | omega | (simp; done) | (simp; omega), (st.pk [] (by decide)).pickK [0], hF⟩
    refine rg (Lm rfl (Ly rfl (y_eqs rfl rfl rfl) (Lm rfl (bE (s := 20) rfl (fun hc8 => ?_) (fun hc8 => ?_)))))
    · refine LsF rfl (LsF rfl (LsF rfl (Ly rfl (yT rfl) (Ls_nil (Th_n (?_))))))
      exact hout2 _ [(4, _), (12, _), (13, _), (14, _), (24, _)] _ ⟨rfl, rfl, rfl, rfl, rfl, trivial⟩ ⟨by unfold okey_c1; rewrite [iP hc8]; rfl, (st.pk [] (by decide)).pickK [0], hF⟩
    refine LyT rfl (y_move rfl rfl) (LaT rfl (Scl st hF rfl (sIndex_ok _ (ix (split_m s [47]) s14) (.func (.func 58) #[] #[]) okey1_m (fun w1 x0 _ => FnV.of (okey1_ok w1 x0))) fun w5 st hF => LyT rfl (yge rfl) (Ly rfl (yF rfl) (Ls_nil (Th_n (?_))))))
    exact hout2 _ [(4, _), (12, _), (13, _), (14, _), (24, _)] _ ⟨rfl, rfl, rfl, rfl, rfl, trivial⟩ ⟨by unfold okey_c1; rewrite [iN hc8]; rfl, (st.pk [] (by decide)).pickK [0], hF⟩
  refine Wp_exit (Th_e (Th_e (Ib_hit (Th_n (?_)))))
  exact hout1 _ [(4, _), (12, _), (13, _), (14, _)] _ ⟨rfl, rfl, rfl, rfl, trivial⟩ ⟨s14, rfl, show _ = _ from by rewrite [← hL1, okey_L1]; rewrite [iN hc6]; rfl, by first | omega | (simp; done) | (simp; omega), (st.pk [] (by decide)).pickK [0], hF⟩
end Go.Proofs.YtdckemiebnfjcaaGreatDoor
end

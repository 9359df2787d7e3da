/- Walks printed by gen2.py out of our own specifications: what the functions named below do. -/
import Derived.Test.YtngofknckkiboaaGreatDoorSc
import Derived.Test.YtngofknckkiboaaGreatDoorSe
import Derived.Test.YtngofknckkiboaaGreatDoorTy
set_option linter.unusedSimpArgs false
set_option linter.unusedVariables false
namespace Go.Proofs.YtngofknckkiboaaGreatDoor
open Go.RowKit

structure IdM where
  origin : Int
  seq : Int
instance : Inhabited IdM := ⟨⟨default, default⟩⟩
instance : DecidableEq IdM := fun a b => decidable_of_iff (a.origin = b.origin ∧ a.seq = b.seq) (by cases a; cases b; simp)
def idMC (x : IdM) : List Value := [.int .i64 x.origin, .int .u32 x.seq]
theorem idMC_len (x : IdM) : (idMC x).length = 2 := rfl
theorem idMC_1 (x : IdM) : ∀ v ∈ idMC x, v.oneCell' = true := all_one rfl
structure TagM where
  id : IdM
  n : Int
instance : Inhabited TagM := ⟨⟨default, default⟩⟩
instance : DecidableEq TagM := fun a b => decidable_of_iff (a.id = b.id ∧ a.n = b.n) (by cases a; cases b; simp)
def tagMC (x : TagM) : List Value := [.int .i64 x.id.origin, .int .u32 x.id.seq, .int .i64 x.n]
theorem tagMC_len (x : TagM) : (tagMC x).length = 3 := rfl
theorem tagMC_1 (x : TagM) : ∀ v ∈ tagMC x, v.oneCell' = true := all_one rfl
theorem eqv_60r (a0 : Int) (a1 : Int) (a2 : Int) (b0 : Int) (b1 : Int) (b2 : Int) : eqVals Tryz.prog 8 60 [.int .i64 a0, .int .u32 a1, .int .i64 a2] [.int .i64 b0, .int .u32 b1, .int .i64 b2] = some (((a0 == b0) && ((a1 == b1) && true)) && ((a2 == b2) && true)) := by kernel_rfl
theorem eqv_60 (x y : TagM) : eqVals Tryz.prog 8 60 (tagMC x) (tagMC y) = some (decide (x = y)) := by
  obtain ⟨⟨a0, a1⟩, a2⟩ := x
  obtain ⟨⟨b0, b1⟩, b2⟩ := y
  refine (eqv_60r a0 a1 a2 b0 b1 b2).trans (congrArg some ?_)
  rw [Bool.eq_iff_iff]
  simp
def sameTags_L1 (a : List TagM) (b : List TagM) : Nat → Int → (Bool) ⊕ (Int)
  | 0, s5 => .inr (s5)
  | fuel + 1, s5 =>
    if s5 < (a.length : Int) then
      if ix a s5 = ix b s5 then
        sameTags_L1 a b fuel (s5 + 1)
      else
        .inl false
    else
      .inr (s5)
def sameTags_m (a : List TagM) (b : List TagM) : Bool :=
  if (a.length : Int) = (b.length : Int) then
    match sameTags_L1 a b (((a.length : Int) - (0 : Int)).toNat + 1) (0 : Int) with
    | .inl r => r
    | .inr (s5) =>
      true
  else
    false


set_option maxRecDepth 20000 in
theorem sameTags_ok (X : List Nat) (w : World) (hX : Lo X w) (a : List TagM) (A_a : Option Addr) (c_a : Nat) (b : List TagM) (A_b : Option Addr) (c_b : Nat) (h_a : Sld X w A_a a.length c_a 3 (a.flatMap tagMC)) (h_b : Sld X w A_b b.length c_b 3 (b.flatMap tagMC)) :
    Fn Tryz.prog 79 [.slice A_a a.length c_a, .slice A_b b.length c_b] w fun v w' => v = .bool (sameTags_m a b) ∧ Fr [] w w' := by
  refine Fn_of 26 Ty.en_79 Tryz.func79 rfl rfl rfl ?_
  dsimp only [argEnv]
  have st := stn2 hX h_a h_b
  have hF := Fr.refl ([]) w
  have z1 := (st.q 0 rfl).le
  have z2 := (st.q 1 rfl).le
  refine sq fun _ k1 => rg (Ls' rfl (Ln k1 (sq fun _ k2 => sq fun _ k3 => rg (Lm rfl (Ly rfl (yll rfl Tryz.underlying33) (Lm rfl (Ly rfl (yll rfl Tryz.underlying33) (Ly rfl (yne rfl) (Ln k3 (cN rfl (fun hc1 => ?_) (fun hc1 => ?_)))))))))))
  · refine sq fun _ k4 => rg (Ls' rfl (Ln k4 (Wp_ret (Th_r (Fq_ret (Res1 rfl rfl) ?_)))))
    unfold sameTags_m; rewrite [if_neg hc1]
    exact ⟨rfl, hF⟩
  refine sk k2 (sq fun _ k5 => sq fun _ k6 => rg (Ls' rfl (Ln k6 (Wp_block (lp (fun q E W => ∃ (s5 : Int), E = [(0, .slice A_a a.length c_a), (1, .slice A_b b.length c_b), (5, .int .i64 s5)] ∧ jq q (fun m => (sameTags_L1 a b m s5 = sameTags_L1 a b (((a.length : Int) - (0 : Int)).toNat + 1) (0 : Int) ∧ ((a.length : Int) - s5).toNat < m)) (sameTags_L1 a b (((a.length : Int) - (0 : Int)).toNat + 1) (0 : Int) = .inr (s5)) ∧ (0 ≤ s5) ∧ St X W [] [kS A_a a.length c_a 3 (a.flatMap tagMC), kS A_b b.length c_b 3 (b.flatMap tagMC)] ∧ Fr ([]) w W) (((a.length : Int) - (0 : Int)).toNat + 1) [(0, _), (1, _), (5, _)] ⟨rfl, rfl, rfl, trivial⟩ ⟨_, rfl, ⟨rfl, Nat.lt_succ_self _⟩, by first | omega | (simp; done) | (simp; omega), st, hF⟩ k5 ?_ fun hout1 => ?_)))))
  · rintro E w1 ⟨s5, rfl, hLk1, hinv, st, hF⟩
    unfold jq at hLk1; dsimp only at hLk1
    refine sq fun _ k7 => rg (Ls' rfl (Ln k7 (Wp_ret (Fq_ret (Res1 rfl rfl) ?_))))
    unfold sameTags_m; rewrite [if_pos hc1, hLk1]; (try dsimp only)
    exact ⟨rfl, hF⟩
  rintro m E w2 ⟨s5, rfl, ⟨hL1, hmu⟩, hinv, st, hF⟩
  obtain ⟨fuel, rfl⟩ : ∃ q, m = q + 1 := ⟨m - 1, by omega⟩
  refine sq fun _ k8 => sq fun _ k9 => rg (Lm rfl (Lm rfl (Ly rfl (yll rfl Tryz.underlying33) (Ly rfl (ylt rfl) (Ln k9 (cD rfl (fun hc2 => ?_) (fun hc2 => ?_)))))))
  · refine sk k8 (sq fun _ k10 => Wp_block (sq fun _ k11 => ?_))
    refine Wp_plan (fun W => St X W (pickL (hOf st) []) (kOf st)) [(true, 0), (true, 1), (true, 2), (true, 3), (true, 4), (true, 5), (true, 6), (true, 7), (true, 8)] Ty.mx_0 (by kernel_rfl) (by kernel_rfl) rfl ((st.picks [] (by decide)).drew) ?_
    have st := st.drew
    have hF := hF.step0 (Fr.drew _)
    refine Pm rfl (Pm rfl ?_)
    obtain ⟨gi1, bi1, egi1⟩ := (st.k (i := 0) rfl).addr (fun _ => rfl) (by decide) (q := s5) (by first | omega | (simp; done) | (simp; omega)) (by first | omega | (simp; done) | (simp; omega))
    subst egi1
    refine Py rfl (y_ixa (q := s5) rfl rfl rfl Ty.es_33 (by first | omega | (simp; done) | (simp; omega)) (by first | omega | (simp; done) | (simp; omega))) ?_
    refine Py rfl (y_ldk (q := s5) rfl rfl Ty.ag_60 (fun _ h => h.k (i := 0) rfl) (fun _ => rfl) (by first | omega | (simp; done) | (simp; omega)) (by first | omega | (simp; done) | (simp; omega))) ?_
    refine Pm rfl (Pm rfl ?_)
    obtain ⟨gi2, bi2, egi2⟩ := (st.k (i := 1) rfl).addr (fun _ => rfl) (by decide) (q := s5) (by first | omega | (simp; done) | (simp; omega)) (by first | omega | (simp; done) | (simp; omega))
    subst egi2
    refine Py rfl (y_ixa (q := s5) rfl rfl rfl Ty.es_33 (by first | omega | (simp; done) | (simp; omega)) (by first | omega | (simp; done) | (simp; omega))) ?_
    refine Py rfl (y_ldk (q := s5) rfl rfl Ty.ag_60 (fun _ h => h.k (i := 1) rfl) (fun _ => rfl) (by first | omega | (simp; done) | (simp; omega)) (by first | omega | (simp; done) | (simp; omega))) ?_
    refine Py rfl (y_nev (b := decide (ix a s5 = ix b s5)) rfl rfl rfl Ty.eg_60 (by rw [Ty.ag_60]; simp) (eqv_60 (ix a s5) (ix b s5))) ?_
    refine Pl_nil (Th_n (k11 _ _ (cDn rfl (fun hc3 => ?_) (fun hc3 => ?_))))
    · refine sq fun _ k12 => rg (Ls' rfl (Ln k12 (Wp_ret (Ib_r (Th_r (Th_r (Ib_r (Th_r (Fq_ret (Res1 rfl rfl) ?_)))))))))
      have hret1 : sameTags_L1 a b (((a.length : Int) - (0 : Int)).toNat + 1) (0 : Int) = .inl false := by rewrite [← hL1, sameTags_L1]; rewrite [if_pos hc2, if_neg hc3]; rfl
      have he3 : sameTags_m a b = false := by unfold sameTags_m; rewrite [if_pos hc1, hret1]; (try dsimp only); all_goals rfl
      rewrite [he3]
      exact ⟨rfl, hF⟩
    refine Wp_skip (Ib_n (Th_n (k10 _ _ (rg (Lm rfl (Ly rfl (y_add (c := s5 + 1) rfl rfl rfl (wf_i64 (by first | omega | (simp; done) | (simp; omega)))) ?_))))))
    refine Ls' rfl (Ls_nil (Th_n (?_)))
    exact ⟨fuel, [(0, _), (1, _), (5, _)], Nat.lt_succ_self _, ⟨rfl, rfl, rfl, trivial⟩, (s5 + 1), rfl, ⟨by rewrite [← hL1, sameTags_L1]; rewrite [if_pos hc2, if_pos hc3]; rfl, by first | omega | (simp; done) | (simp; omega)⟩, by first | omega | (simp; done) | (simp; omega), (st.picks [] (by decide)).pickK [0, 1], hF⟩
  refine Wp_exit (Th_e (Th_e (Ib_hit (Th_n (?_)))))
  exact hout1 _ [(0, _), (1, _), (5, _)] _ ⟨rfl, rfl, rfl, trivial⟩ ⟨s5, rfl, show _ = _ from by rewrite [← hL1, sameTags_L1]; rewrite [if_neg hc2]; rfl, by first | omega | (simp; done) | (simp; omega), (st.picks [] (by decide)).pickK [0, 1], hF⟩

structure AddM where
  tag : TagM
  elem : List UInt8
instance : Inhabited AddM := ⟨⟨default, default⟩⟩
instance : DecidableEq AddM := fun a b => decidable_of_iff (a.tag = b.tag ∧ a.elem = b.elem) (by cases a; cases b; simp)
def addMC (x : AddM) : List Value := [.int .i64 x.tag.id.origin, .int .u32 x.tag.id.seq, .int .i64 x.tag.n, sv x.elem]
theorem addMC_len (x : AddM) : (addMC x).length = 4 := rfl
theorem addMC_1 (x : AddM) : ∀ v ∈ addMC x, v.oneCell' = true := all_one rfl
structure SetM where
  adds : List AddM
  gone : List TagM
instance : Inhabited SetM := ⟨⟨default, default⟩⟩
instance : DecidableEq SetM := fun a b => decidable_of_iff (a.adds = b.adds ∧ a.gone = b.gone) (by cases a; cases b; simp)
theorem eqv_160r (a0 : Int) (a1 : Int) (a2 : Int) (a3 : List UInt8) (b0 : Int) (b1 : Int) (b2 : Int) (b3 : List UInt8) : eqVals Tryz.prog 8 160 [.int .i64 a0, .int .u32 a1, .int .i64 a2, sv a3] [.int .i64 b0, .int .u32 b1, .int .i64 b2, sv b3] = some ((((a0 == b0) && ((a1 == b1) && true)) && ((a2 == b2) && true)) && ((a3 == b3) && true)) := by kernel_rfl
theorem eqv_160 (x y : AddM) : eqVals Tryz.prog 8 160 (addMC x) (addMC y) = some (decide (x = y)) := by
  obtain ⟨⟨⟨a0, a1⟩, a2⟩, a3⟩ := x
  obtain ⟨⟨⟨b0, b1⟩, b2⟩, b3⟩ := y
  refine (eqv_160r a0 a1 a2 a3 b0 b1 b2 b3).trans (congrArg some ?_)
  rw [Bool.eq_iff_iff]
  simp
def r12same_c1 (a : SetM) (b : SetM) : Bool :=
  (if (a.adds.length : Int) = (b.adds.length : Int) then !(sameTags_m a.gone b.gone) else true)

def r12same_L1 (a : SetM) (b : SetM) : Nat → Int → (Bool) ⊕ (Int)
  | 0, s5 => .inr (s5)
  | fuel + 1, s5 =>
    if s5 < (a.adds.length : Int) then
      if ix a.adds s5 = ix b.adds s5 then
        r12same_L1 a b fuel (s5 + 1)
      else
        .inl false
    else
      .inr (s5)
def r12same_m (a : SetM) (b : SetM) : Bool :=
  if (r12same_c1 a b) = true then
    false
  else
    match r12same_L1 a b (((a.adds.length : Int) - (0 : Int)).toNat + 1) (0 : Int) with
    | .inl r => r
    | .inr (s5) =>
      true

theorem r12same_c1_iff (a : SetM) (b : SetM) : (r12same_c1 a b = true) ↔ (¬ ((a.adds.length : Int) = (b.adds.length : Int)) ∨ (¬ ((sameTags_m a.gone b.gone) = true))) := by
  unfold r12same_c1; exact (ci4 (by simp))

set_option maxRecDepth 20000 in
theorem r12same_ok (X : List Nat) (w : World) (hX : Lo X w) (a : SetM) (A1 : Option Addr) (C1 : Nat) (A2 : Option Addr) (C2 : Nat) (b : SetM) (A3 : Option Addr) (C3 : Nat) (A4 : Option Addr) (C4 : Nat) (z5 : Sld X w A1 a.adds.length C1 4 (a.adds.flatMap addMC)) (z6 : Sld X w A2 a.gone.length C2 3 (a.gone.flatMap tagMC)) (z7 : Sld X w A3 b.adds.length C3 4 (b.adds.flatMap addMC)) (z8 : Sld X w A4 b.gone.length C4 3 (b.gone.flatMap tagMC)) :
    Fn Tryz.prog 27 [.agg #[.slice A1 a.adds.length C1, .slice A2 a.gone.length C2], .agg #[.slice A3 b.adds.length C3, .slice A4 b.gone.length C4]] w fun v w' => v = .bool (r12same_m a b) ∧ Fr [] w w' := by
  refine Fn_of 39 Ty.en_27 Tryz.func27 rfl rfl rfl ?_
  dsimp only [argEnv]
  have st := stn4 hX z5 z6 z7 z8
  have hF := Fr.refl ([]) w
  have z1 := (st.q 0 rfl).le
  have z2 := (st.q 1 rfl).le
  have z3 := (st.q 2 rfl).le
  have z4 := (st.q 3 rfl).le
  refine sq fun _ k1 => rg (La rfl (Sbx st hF rfl fun g1 w1 (st : St _ _ [_] _) hF hg1 => La rfl (Sbx st hF rfl fun g2 w2 (st : St _ _ [_, _] _) hF hg2 => Ls' rfl (Ln k1 (sq fun _ k2 => sq fun _ k3 => ?_)))))
  refine use_out k3 (fun E W => E = [(2, .pointer (some ⟨g1, 0, none⟩)), (3, .pointer (some ⟨g2, 0, none⟩)), (20, .bool (r12same_c1 a b))] ∧ St X W (hOf st) (kOf st) ∧ Fr ([]) w W) ?_ fun hout1 => ?_
  · rintro E w3 ⟨rfl, st, hF⟩
    have st : St X w3 [_, _] [_, _, _, _] := st
    refine cB rfl (fun hc1 => ?_) (fun hc1 => ?_)
    · have jhc1 := (r12same_c1_iff a b).1 hc1
      refine sq fun _ k4 => rg (Ls' rfl (Ln k4 (Wp_ret (Th_r (Fq_ret (Res1 rfl rfl) ?_)))))
      unfold r12same_m; rewrite [if_pos hc1]
      exact ⟨rfl, hF⟩
    have jhc1 := mt (r12same_c1_iff a b).2 hc1
    refine sk k2 (sq fun _ k5 => sq fun _ k6 => rg (Ls' rfl (Ln k6 (Wp_block (lp (fun q E W => ∃ (s5 : Int), E = [(2, .pointer (some ⟨g1, 0, none⟩)), (3, .pointer (some ⟨g2, 0, none⟩)), (5, .int .i64 s5)] ∧ jq q (fun m => (r12same_L1 a b m s5 = r12same_L1 a b (((a.adds.length : Int) - (0 : Int)).toNat + 1) (0 : Int) ∧ ((a.adds.length : Int) - s5).toNat < m)) (r12same_L1 a b (((a.adds.length : Int) - (0 : Int)).toNat + 1) (0 : Int) = .inr (s5)) ∧ (0 ≤ s5) ∧ St X W [(some g1, Cl [.slice A1 a.adds.length C1, .slice A2 a.gone.length C2] 51), (some g2, Cl [.slice A3 b.adds.length C3, .slice A4 b.gone.length C4] 51)] [kS A1 a.adds.length C1 4 (a.adds.flatMap addMC), kS A2 a.gone.length C2 3 (a.gone.flatMap tagMC), kS A3 b.adds.length C3 4 (b.adds.flatMap addMC), kS A4 b.gone.length C4 3 (b.gone.flatMap tagMC)] ∧ Fr ([]) w W) (((a.adds.length : Int) - (0 : Int)).toNat + 1) [(2, _), (3, _), (5, _)] ⟨rfl, rfl, rfl, trivial⟩ ⟨_, rfl, ⟨rfl, Nat.lt_succ_self _⟩, by first | omega | (simp; done) | (simp; omega), st, hF⟩ k5 ?_ fun hout2 => ?_)))))
    · rintro E w4 ⟨s5, rfl, hLk1, hinv, st, hF⟩
      unfold jq at hLk1; dsimp only at hLk1
      refine sq fun _ k7 => rg (Ls' rfl (Ln k7 (Wp_ret (Fq_ret (Res1 rfl rfl) ?_))))
      unfold r12same_m; rewrite [if_neg hc1, hLk1]; (try dsimp only)
      exact ⟨rfl, hF⟩
    rintro m E w5 ⟨s5, rfl, ⟨hL1, hmu⟩, hinv, st, hF⟩
    obtain ⟨fuel, rfl⟩ : ∃ q, m = q + 1 := ⟨m - 1, by omega⟩
    refine sq fun _ k8 => sq fun _ k9 => rg (Lm rfl (Ly rfl (yf rfl Ty.fo_51_0) (Ly rfl (yl 0 Ty.pl_49 st rfl) (Ly rfl (yll rfl Tryz.underlying49) (Ly rfl (ylt rfl) (Ln k9 (cD rfl (fun hc2 => ?_) (fun hc2 => ?_))))))))
    · refine sk k8 (sq fun _ k10 => Wp_block (sq fun _ k11 => ?_))
      refine Wp_plan (fun W => St X W (pickL (hOf st) [0, 1]) (kOf st)) [(true, 0), (true, 1), (true, 2), (true, 3), (true, 4), (true, 5), (true, 6), (true, 7), (true, 8), (true, 9), (true, 10)] Ty.mx_0 (by kernel_rfl) (by kernel_rfl) rfl ((st.picks [0, 1] (by decide)).drew) ?_
      have st := st.drew
      have hF := hF.step0 (Fr.drew _)
      refine Py rfl (yf rfl Ty.fo_51_0) (Py rfl (y_load (i := 0) rfl rfl Ty.pl_49 (fun _ h => h.hp) rfl rfl) (Pm rfl ?_))
      obtain ⟨gi1, bi1, egi1⟩ := (st.k (i := 0) rfl).addr (fun _ => rfl) (by decide) (q := s5) (by first | omega | (simp; done) | (simp; omega)) (by first | omega | (simp; done) | (simp; omega))
      subst egi1
      refine Py rfl (y_ixa (q := s5) rfl rfl rfl Ty.es_49 (by first | omega | (simp; done) | (simp; omega)) (by first | omega | (simp; done) | (simp; omega))) ?_
      refine Py rfl (y_ldk (q := s5) rfl rfl Ty.ag_160 (fun _ h => h.k (i := 0) rfl) (fun _ => rfl) (by first | omega | (simp; done) | (simp; omega)) (by first | omega | (simp; done) | (simp; omega))) ?_
      refine Py rfl (yf rfl Ty.fo_51_0) (Py rfl (y_load (i := 1) rfl rfl Ty.pl_49 (fun _ h => h.hp) rfl rfl) (Pm rfl ?_))
      obtain ⟨gi2, bi2, egi2⟩ := (st.k (i := 2) rfl).addr (fun _ => rfl) (by decide) (q := s5) (by first | omega | (simp; done) | (simp; omega)) (by first | omega | (simp; done) | (simp; omega))
      subst egi2
      refine Py rfl (y_ixa (q := s5) rfl rfl rfl Ty.es_49 (by first | omega | (simp; done) | (simp; omega)) (by first | omega | (simp; done) | (simp; omega))) ?_
      refine Py rfl (y_ldk (q := s5) rfl rfl Ty.ag_160 (fun _ h => h.k (i := 2) rfl) (fun _ => rfl) (by first | omega | (simp; done) | (simp; omega)) (by first | omega | (simp; done) | (simp; omega))) ?_
      refine Py rfl (y_nev (b := decide (ix a.adds s5 = ix b.adds s5)) rfl rfl rfl Ty.eg_160 (by rw [Ty.ag_160]; simp) (eqv_160 (ix a.adds s5) (ix b.adds s5))) ?_
      refine Pl_nil (Th_n (k11 _ _ (cDn rfl (fun hc3 => ?_) (fun hc3 => ?_))))
      · refine sq fun _ k12 => rg (Ls' rfl (Ln k12 (Wp_ret (Ib_r (Th_r (Th_r (Ib_r (Th_r (Fq_ret (Res1 rfl rfl) ?_)))))))))
        have hret1 : r12same_L1 a b (((a.adds.length : Int) - (0 : Int)).toNat + 1) (0 : Int) = .inl false := by rewrite [← hL1, r12same_L1]; rewrite [if_pos hc2, if_neg hc3]; rfl
        have he3 : r12same_m a b = false := by unfold r12same_m; rewrite [if_neg hc1, hret1]; (try dsimp only); all_goals rfl
        rewrite [he3]
        exact ⟨rfl, hF⟩
      refine Wp_skip (Ib_n (Th_n (k10 _ _ (rg (Lm rfl (Ly rfl (y_add (c := s5 + 1) rfl rfl rfl (wf_i64 (by first | omega | (simp; done) | (simp; omega)))) ?_))))))
      refine Ls' rfl (Ls_nil (Th_n (?_)))
      exact ⟨fuel, [(2, _), (3, _), (5, _)], Nat.lt_succ_self _, ⟨rfl, rfl, rfl, trivial⟩, (s5 + 1), rfl, ⟨by rewrite [← hL1, r12same_L1]; rewrite [if_pos hc2, if_pos hc3]; rfl, by first | omega | (simp; done) | (simp; omega)⟩, by first | omega | (simp; done) | (simp; omega), (st.picks [0, 1] (by decide)).pickK [0, 1, 2, 3], hF⟩
    refine Wp_exit (Th_e (Th_e (Ib_hit (Th_n (?_)))))
    exact hout2 _ [(2, _), (3, _), (5, _)] _ ⟨rfl, rfl, rfl, trivial⟩ ⟨s5, rfl, show _ = _ from by rewrite [← hL1, r12same_L1]; rewrite [if_neg hc2]; rfl, by first | omega | (simp; done) | (simp; omega), (st.picks [0, 1] (by decide)).pickK [0, 1, 2, 3], hF⟩
  refine rg (Ly rfl (yf rfl Ty.fo_51_0) (Ly rfl (yl 0 Ty.pl_49 st rfl) (Ly rfl (yll rfl Tryz.underlying49) (Ly rfl (yf rfl Ty.fo_51_0) (Ly rfl (yl 1 Ty.pl_49 st rfl) (Ly rfl (yll rfl Tryz.underlying49) (Ly rfl (yne rfl) (Lm rfl (bN (s := 13) rfl (fun hc4 => ?_) (fun hc4 => ?_))))))))))
  · refine LsF rfl (LsF rfl (LsF rfl (LsF rfl (LsF rfl (LsF rfl (Ly rfl (yT rfl) (Ls_nil (Th_n (?_)))))))))
    exact hout1 _ [(2, _), (3, _), (20, _)] _ ⟨rfl, rfl, rfl, trivial⟩ ⟨by unfold r12same_c1; rewrite [if_neg hc4]; rfl, (st.picks [0, 1] (by decide)).pickK [0, 1, 2, 3], hF⟩
  refine LyT rfl (yf rfl Ty.fo_51_1) (LyT rfl (yl 0 Ty.pl_33 st rfl) (LyT rfl (yf rfl Ty.fo_51_1) (LyT rfl (yl 1 Ty.pl_33 st rfl) (LaT rfl (Scl st hF rfl (sameTags_ok (keys (hOf st) ++ X) _ st.Lo a.gone A2 C2 b.gone A4 C4 (st.q 1 rfl) (st.q 3 rfl)) fun w6 st hF => LyT rfl (yn rfl) (Ly rfl (yF rfl) (Ls_nil (Th_n (?_)))))))))
  exact hout1 _ [(2, _), (3, _), (20, _)] _ ⟨rfl, rfl, rfl, trivial⟩ ⟨by unfold r12same_c1; rewrite [if_pos hc4]; rfl, (st.picks [0, 1] (by decide)).pickK [0, 1, 2, 3], hF⟩

structure StampM where
  time : Int
  origin : Int
instance : Inhabited StampM := ⟨⟨default, default⟩⟩
instance : DecidableEq StampM := fun a b => decidable_of_iff (a.time = b.time ∧ a.origin = b.origin) (by cases a; cases b; simp)
def stampMC (x : StampM) : List Value := [.int .u32 x.time, .int .i64 x.origin]
theorem stampMC_len (x : StampM) : (stampMC x).length = 2 := rfl
theorem stampMC_1 (x : StampM) : ∀ v ∈ stampMC x, v.oneCell' = true := all_one rfl
structure PutM where
  tag : TagM
  field : List UInt8
  val : Int
  atF : StampM
instance : Inhabited PutM := ⟨⟨default, default, default, default⟩⟩
instance : DecidableEq PutM := fun a b => decidable_of_iff (a.tag = b.tag ∧ a.field = b.field ∧ a.val = b.val ∧ a.atF = b.atF) (by cases a; cases b; simp)
def putMC (x : PutM) : List Value := [.int .i64 x.tag.id.origin, .int .u32 x.tag.id.seq, .int .i64 x.tag.n, sv x.field, .int .i64 x.val, .int .u32 x.atF.time, .int .i64 x.atF.origin]
theorem putMC_len (x : PutM) : (putMC x).length = 7 := rfl
theorem putMC_1 (x : PutM) : ∀ v ∈ putMC x, v.oneCell' = true := all_one rfl
structure MapM where
  puts : List PutM
  gone : List TagM
instance : Inhabited MapM := ⟨⟨default, default⟩⟩
instance : DecidableEq MapM := fun a b => decidable_of_iff (a.puts = b.puts ∧ a.gone = b.gone) (by cases a; cases b; simp)
theorem eqv_161r (a0 : Int) (a1 : Int) (a2 : Int) (a3 : List UInt8) (a4 : Int) (a5 : Int) (a6 : Int) (b0 : Int) (b1 : Int) (b2 : Int) (b3 : List UInt8) (b4 : Int) (b5 : Int) (b6 : Int) : eqVals Tryz.prog 8 161 [.int .i64 a0, .int .u32 a1, .int .i64 a2, sv a3, .int .i64 a4, .int .u32 a5, .int .i64 a6] [.int .i64 b0, .int .u32 b1, .int .i64 b2, sv b3, .int .i64 b4, .int .u32 b5, .int .i64 b6] = some ((((a0 == b0) && ((a1 == b1) && true)) && ((a2 == b2) && true)) && ((a3 == b3) && ((a4 == b4) && (((a5 == b5) && ((a6 == b6) && true)) && true)))) := by kernel_rfl
theorem eqv_161 (x y : PutM) : eqVals Tryz.prog 8 161 (putMC x) (putMC y) = some (decide (x = y)) := by
  obtain ⟨⟨⟨a0, a1⟩, a2⟩, a3, a4, ⟨a5, a6⟩⟩ := x
  obtain ⟨⟨⟨b0, b1⟩, b2⟩, b3, b4, ⟨b5, b6⟩⟩ := y
  refine (eqv_161r a0 a1 a2 a3 a4 a5 a6 b0 b1 b2 b3 b4 b5 b6).trans (congrArg some ?_)
  rw [Bool.eq_iff_iff]
  simp
def r13same_c1 (a : MapM) (b : MapM) : Bool :=
  (if (a.puts.length : Int) = (b.puts.length : Int) then !(sameTags_m a.gone b.gone) else true)

def r13same_L1 (a : MapM) (b : MapM) : Nat → Int → (Bool) ⊕ (Int)
  | 0, s5 => .inr (s5)
  | fuel + 1, s5 =>
    if s5 < (a.puts.length : Int) then
      if ix a.puts s5 = ix b.puts s5 then
        r13same_L1 a b fuel (s5 + 1)
      else
        .inl false
    else
      .inr (s5)
def r13same_m (a : MapM) (b : MapM) : Bool :=
  if (r13same_c1 a b) = true then
    false
  else
    match r13same_L1 a b (((a.puts.length : Int) - (0 : Int)).toNat + 1) (0 : Int) with
    | .inl r => r
    | .inr (s5) =>
      true

theorem r13same_c1_iff (a : MapM) (b : MapM) : (r13same_c1 a b = true) ↔ (¬ ((a.puts.length : Int) = (b.puts.length : Int)) ∨ (¬ ((sameTags_m a.gone b.gone) = true))) := by
  unfold r13same_c1; exact (ci4 (by simp))

set_option maxRecDepth 20000 in
theorem r13same_ok (X : List Nat) (w : World) (hX : Lo X w) (a : MapM) (A2 : Option Addr) (C2 : Nat) (A1 : Option Addr) (C1 : Nat) (b : MapM) (A4 : Option Addr) (C4 : Nat) (A3 : Option Addr) (C3 : Nat) (z6 : Sld X w A2 a.puts.length C2 7 (a.puts.flatMap putMC)) (z5 : Sld X w A1 a.gone.length C1 3 (a.gone.flatMap tagMC)) (z8 : Sld X w A4 b.puts.length C4 7 (b.puts.flatMap putMC)) (z7 : Sld X w A3 b.gone.length C3 3 (b.gone.flatMap tagMC)) :
    Fn Tryz.prog 28 [.agg #[.slice A2 a.puts.length C2, .slice A1 a.gone.length C1], .agg #[.slice A4 b.puts.length C4, .slice A3 b.gone.length C3]] w fun v w' => v = .bool (r13same_m a b) ∧ Fr [] w w' := by
  refine Fn_of 39 Ty.en_28 Tryz.func28 rfl rfl rfl ?_
  dsimp only [argEnv]
  have st := stn4 hX z6 z5 z8 z7
  have hF := Fr.refl ([]) w
  have z2 := (st.q 0 rfl).le
  have z1 := (st.q 1 rfl).le
  have z4 := (st.q 2 rfl).le
  have z3 := (st.q 3 rfl).le
  refine sq fun _ k1 => rg (La rfl (Sbx st hF rfl fun g1 w1 (st : St _ _ [_] _) hF hg1 => La rfl (Sbx st hF rfl fun g2 w2 (st : St _ _ [_, _] _) hF hg2 => Ls' rfl (Ln k1 (sq fun _ k2 => sq fun _ k3 => ?_)))))
  refine use_out k3 (fun E W => E = [(2, .pointer (some ⟨g1, 0, none⟩)), (3, .pointer (some ⟨g2, 0, none⟩)), (20, .bool (r13same_c1 a b))] ∧ St X W (hOf st) (kOf st) ∧ Fr ([]) w W) ?_ fun hout1 => ?_
  · rintro E w3 ⟨rfl, st, hF⟩
    have st : St X w3 [_, _] [_, _, _, _] := st
    refine cB rfl (fun hc1 => ?_) (fun hc1 => ?_)
    · have jhc1 := (r13same_c1_iff a b).1 hc1
      refine sq fun _ k4 => rg (Ls' rfl (Ln k4 (Wp_ret (Th_r (Fq_ret (Res1 rfl rfl) ?_)))))
      unfold r13same_m; rewrite [if_pos hc1]
      exact ⟨rfl, hF⟩
    have jhc1 := mt (r13same_c1_iff a b).2 hc1
    refine sk k2 (sq fun _ k5 => sq fun _ k6 => rg (Ls' rfl (Ln k6 (Wp_block (lp (fun q E W => ∃ (s5 : Int), E = [(2, .pointer (some ⟨g1, 0, none⟩)), (3, .pointer (some ⟨g2, 0, none⟩)), (5, .int .i64 s5)] ∧ jq q (fun m => (r13same_L1 a b m s5 = r13same_L1 a b (((a.puts.length : Int) - (0 : Int)).toNat + 1) (0 : Int) ∧ ((a.puts.length : Int) - s5).toNat < m)) (r13same_L1 a b (((a.puts.length : Int) - (0 : Int)).toNat + 1) (0 : Int) = .inr (s5)) ∧ (0 ≤ s5) ∧ St X W [(some g1, Cl [.slice A2 a.puts.length C2, .slice A1 a.gone.length C1] 54), (some g2, Cl [.slice A4 b.puts.length C4, .slice A3 b.gone.length C3] 54)] [kS A2 a.puts.length C2 7 (a.puts.flatMap putMC), kS A1 a.gone.length C1 3 (a.gone.flatMap tagMC), kS A4 b.puts.length C4 7 (b.puts.flatMap putMC), kS A3 b.gone.length C3 3 (b.gone.flatMap tagMC)] ∧ Fr ([]) w W) (((a.puts.length : Int) - (0 : Int)).toNat + 1) [(2, _), (3, _), (5, _)] ⟨rfl, rfl, rfl, trivial⟩ ⟨_, rfl, ⟨rfl, Nat.lt_succ_self _⟩, by first | omega | (simp; done) | (simp; omega), st, hF⟩ k5 ?_ fun hout2 => ?_)))))
    · rintro E w4 ⟨s5, rfl, hLk1, hinv, st, hF⟩
      unfold jq at hLk1; dsimp only at hLk1
      refine sq fun _ k7 => rg (Ls' rfl (Ln k7 (Wp_ret (Fq_ret (Res1 rfl rfl) ?_))))
      unfold r13same_m; rewrite [if_neg hc1, hLk1]; (try dsimp only)
      exact ⟨rfl, hF⟩
    rintro m E w5 ⟨s5, rfl, ⟨hL1, hmu⟩, hinv, st, hF⟩
    obtain ⟨fuel, rfl⟩ : ∃ q, m = q + 1 := ⟨m - 1, by omega⟩
    refine sq fun _ k8 => sq fun _ k9 => rg (Lm rfl (Ly rfl (yf rfl Ty.fo_54_0) (Ly rfl (yl 0 Ty.pl_52 st rfl) (Ly rfl (yll rfl Tryz.underlying52) (Ly rfl (ylt rfl) (Ln k9 (cD rfl (fun hc2 => ?_) (fun hc2 => ?_))))))))
    · refine sk k8 (sq fun _ k10 => Wp_block (sq fun _ k11 => ?_))
      refine Wp_plan (fun W => St X W (pickL (hOf st) [0, 1]) (kOf st)) [(true, 0), (true, 1), (true, 2), (true, 3), (true, 4), (true, 5), (true, 6), (true, 7), (true, 8), (true, 9), (true, 10)] Ty.mx_0 (by kernel_rfl) (by kernel_rfl) rfl ((st.picks [0, 1] (by decide)).drew) ?_
      have st := st.drew
      have hF := hF.step0 (Fr.drew _)
      refine Py rfl (yf rfl Ty.fo_54_0) (Py rfl (y_load (i := 0) rfl rfl Ty.pl_52 (fun _ h => h.hp) rfl rfl) (Pm rfl ?_))
      obtain ⟨gi1, bi1, egi1⟩ := (st.k (i := 0) rfl).addr (fun _ => rfl) (by decide) (q := s5) (by first | omega | (simp; done) | (simp; omega)) (by first | omega | (simp; done) | (simp; omega))
      subst egi1
      refine Py rfl (y_ixa (q := s5) rfl rfl rfl Ty.es_52 (by first | omega | (simp; done) | (simp; omega)) (by first | omega | (simp; done) | (simp; omega))) ?_
      refine Py rfl (y_ldk (q := s5) rfl rfl Ty.ag_161 (fun _ h => h.k (i := 0) rfl) (fun _ => rfl) (by first | omega | (simp; done) | (simp; omega)) (by first | omega | (simp; done) | (simp; omega))) ?_
      refine Py rfl (yf rfl Ty.fo_54_0) (Py rfl (y_load (i := 1) rfl rfl Ty.pl_52 (fun _ h => h.hp) rfl rfl) (Pm rfl ?_))
      obtain ⟨gi2, bi2, egi2⟩ := (st.k (i := 2) rfl).addr (fun _ => rfl) (by decide) (q := s5) (by first | omega | (simp; done) | (simp; omega)) (by first | omega | (simp; done) | (simp; omega))
      subst egi2
      refine Py rfl (y_ixa (q := s5) rfl rfl rfl Ty.es_52 (by first | omega | (simp; done) | (simp; omega)) (by first | omega | (simp; done) | (simp; omega))) ?_
      refine Py rfl (y_ldk (q := s5) rfl rfl Ty.ag_161 (fun _ h => h.k (i := 2) rfl) (fun _ => rfl) (by first | omega | (simp; done) | (simp; omega)) (by first | omega | (simp; done) | (simp; omega))) ?_
      refine Py rfl (y_nev (b := decide (ix a.puts s5 = ix b.puts s5)) rfl rfl rfl Ty.eg_161 (by rw [Ty.ag_161]; simp) (eqv_161 (ix a.puts s5) (ix b.puts s5))) ?_
      refine Pl_nil (Th_n (k11 _ _ (cDn rfl (fun hc3 => ?_) (fun hc3 => ?_))))
      · refine sq fun _ k12 => rg (Ls' rfl (Ln k12 (Wp_ret (Ib_r (Th_r (Th_r (Ib_r (Th_r (Fq_ret (Res1 rfl rfl) ?_)))))))))
        have hret1 : r13same_L1 a b (((a.puts.length : Int) - (0 : Int)).toNat + 1) (0 : Int) = .inl false := by rewrite [← hL1, r13same_L1]; rewrite [if_pos hc2, if_neg hc3]; rfl
        have he3 : r13same_m a b = false := by unfold r13same_m; rewrite [if_neg hc1, hret1]; (try dsimp only); all_goals rfl
        rewrite [he3]
        exact ⟨rfl, hF⟩
      refine Wp_skip (Ib_n (Th_n (k10 _ _ (rg (Lm rfl (Ly rfl (y_add (c := s5 + 1) rfl rfl rfl (wf_i64 (by first | omega | (simp; done) | (simp; omega)))) ?_))))))
      refine Ls' rfl (Ls_nil (Th_n (?_)))
      exact ⟨fuel, [(2, _), (3, _), (5, _)], Nat.lt_succ_self _, ⟨rfl, rfl, rfl, trivial⟩, (s5 + 1), rfl, ⟨by rewrite [← hL1, r13same_L1]; rewrite [if_pos hc2, if_pos hc3]; rfl, by first | omega | (simp; done) | (simp; omega)⟩, by first | omega | (simp; done) | (simp; omega), (st.picks [0, 1] (by decide)).pickK [0, 1, 2, 3], hF⟩
    refine Wp_exit (Th_e (Th_e (Ib_hit (Th_n (?_)))))
    exact hout2 _ [(2, _), (3, _), (5, _)] _ ⟨rfl, rfl, rfl, trivial⟩ ⟨s5, rfl, show _ = _ from by rewrite [← hL1, r13same_L1]; rewrite [if_neg hc2]; rfl, by first | omega | (simp; done) | (simp; omega), (st.picks [0, 1] (by decide)).pickK [0, 1, 2, 3], hF⟩
  refine rg (Ly rfl (yf rfl Ty.fo_54_0) (Ly rfl (yl 0 Ty.pl_52 st rfl) (Ly rfl (yll rfl Tryz.underlying52) (Ly rfl (yf rfl Ty.fo_54_0) (Ly rfl (yl 1 Ty.pl_52 st rfl) (Ly rfl (yll rfl Tryz.underlying52) (Ly rfl (yne rfl) (Lm rfl (bN (s := 13) rfl (fun hc4 => ?_) (fun hc4 => ?_))))))))))
  · refine LsF rfl (LsF rfl (LsF rfl (LsF rfl (LsF rfl (LsF rfl (Ly rfl (yT rfl) (Ls_nil (Th_n (?_)))))))))
    exact hout1 _ [(2, _), (3, _), (20, _)] _ ⟨rfl, rfl, rfl, trivial⟩ ⟨by unfold r13same_c1; rewrite [if_neg hc4]; rfl, (st.picks [0, 1] (by decide)).pickK [0, 1, 2, 3], hF⟩
  refine LyT rfl (yf rfl Ty.fo_54_1) (LyT rfl (yl 0 Ty.pl_33 st rfl) (LyT rfl (yf rfl Ty.fo_54_1) (LyT rfl (yl 1 Ty.pl_33 st rfl) (LaT rfl (Scl st hF rfl (sameTags_ok (keys (hOf st) ++ X) _ st.Lo a.gone A1 C1 b.gone A3 C3 (st.q 1 rfl) (st.q 3 rfl)) fun w6 st hF => LyT rfl (yn rfl) (Ly rfl (yF rfl) (Ls_nil (Th_n (?_)))))))))
  exact hout1 _ [(2, _), (3, _), (20, _)] _ ⟨rfl, rfl, rfl, trivial⟩ ⟨by unfold r13same_c1; rewrite [if_pos hc4]; rfl, (st.picks [0, 1] (by decide)).pickK [0, 1, 2, 3], hF⟩

structure RegM where
  val : Int
  atF : StampM
instance : Inhabited RegM := ⟨⟨default, default⟩⟩
instance : DecidableEq RegM := fun a b => decidable_of_iff (a.val = b.val ∧ a.atF = b.atF) (by cases a; cases b; simp)
def regMC (x : RegM) : List Value := [.int .i64 x.val, .int .u32 x.atF.time, .int .i64 x.atF.origin]
theorem regMC_len (x : RegM) : (regMC x).length = 3 := rfl
theorem regMC_1 (x : RegM) : ∀ v ∈ regMC x, v.oneCell' = true := all_one rfl
structure NumM where
  plus : Int
  minus : Int
instance : Inhabited NumM := ⟨⟨default, default⟩⟩
instance : DecidableEq NumM := fun a b => decidable_of_iff (a.plus = b.plus ∧ a.minus = b.minus) (by cases a; cases b; simp)
def numMC (x : NumM) : List Value := [.int .i64 x.plus, .int .i64 x.minus]
theorem numMC_len (x : NumM) : (numMC x).length = 2 := rfl
theorem numMC_1 (x : NumM) : ∀ v ∈ numMC x, v.oneCell' = true := all_one rfl
structure ObjM where
  kind : Int
  reg : RegM
  num : NumM
  setF : SetM
  map : MapM
instance : Inhabited ObjM := ⟨⟨default, default, default, default, default⟩⟩
instance : DecidableEq ObjM := fun a b => decidable_of_iff (a.kind = b.kind ∧ a.reg = b.reg ∧ a.num = b.num ∧ a.setF = b.setF ∧ a.map = b.map) (by cases a; cases b; simp)
theorem eqv_47r (a0 : Int) (a1 : Int) (a2 : Int) (b0 : Int) (b1 : Int) (b2 : Int) : eqVals Tryz.prog 8 47 [.int .i64 a0, .int .u32 a1, .int .i64 a2] [.int .i64 b0, .int .u32 b1, .int .i64 b2] = some ((a0 == b0) && (((a1 == b1) && ((a2 == b2) && true)) && true)) := by kernel_rfl
theorem eqv_47 (x y : RegM) : eqVals Tryz.prog 8 47 (regMC x) (regMC y) = some (decide (x = y)) := by
  obtain ⟨a0, ⟨a1, a2⟩⟩ := x
  obtain ⟨b0, ⟨b1, b2⟩⟩ := y
  refine (eqv_47r a0 a1 a2 b0 b1 b2).trans (congrArg some ?_)
  rw [Bool.eq_iff_iff]
  simp
theorem eqv_48r (a0 : Int) (a1 : Int) (b0 : Int) (b1 : Int) : eqVals Tryz.prog 8 48 [.int .i64 a0, .int .i64 a1] [.int .i64 b0, .int .i64 b1] = some ((a0 == b0) && ((a1 == b1) && true)) := by kernel_rfl
theorem eqv_48 (x y : NumM) : eqVals Tryz.prog 8 48 (numMC x) (numMC y) = some (decide (x = y)) := by
  obtain ⟨a0, a1⟩ := x
  obtain ⟨b0, b1⟩ := y
  refine (eqv_48r a0 a1 b0 b1).trans (congrArg some ?_)
  rw [Bool.eq_iff_iff]
  simp
def r14same_m (a : ObjM) (b : ObjM) : Bool :=
  if a.kind = b.kind then
    if a.reg = b.reg then
      if a.num = b.num then
        if (r12same_m a.setF b.setF) = true then
          r13same_m a.map b.map
        else
          false
      else
        false
    else
      false
  else
    false


set_option maxRecDepth 20000 in
theorem r14same_ok (X : List Nat) (w : World) (hX : Lo X w) (a : ObjM) (A1 : Option Addr) (C1 : Nat) (A2 : Option Addr) (C2 : Nat) (A6 : Option Addr) (C6 : Nat) (A5 : Option Addr) (C5 : Nat) (b : ObjM) (A3 : Option Addr) (C3 : Nat) (A4 : Option Addr) (C4 : Nat) (A8 : Option Addr) (C8 : Nat) (A7 : Option Addr) (C7 : Nat) (z9 : Sld X w A1 a.setF.adds.length C1 4 (a.setF.adds.flatMap addMC)) (z10 : Sld X w A2 a.setF.gone.length C2 3 (a.setF.gone.flatMap tagMC)) (z14 : Sld X w A6 a.map.puts.length C6 7 (a.map.puts.flatMap putMC)) (z13 : Sld X w A5 a.map.gone.length C5 3 (a.map.gone.flatMap tagMC)) (z11 : Sld X w A3 b.setF.adds.length C3 4 (b.setF.adds.flatMap addMC)) (z12 : Sld X w A4 b.setF.gone.length C4 3 (b.setF.gone.flatMap tagMC)) (z16 : Sld X w A8 b.map.puts.length C8 7 (b.map.puts.flatMap putMC)) (z15 : Sld X w A7 b.map.gone.length C7 3 (b.map.gone.flatMap tagMC)) :
    Fn Tryz.prog 9 [.agg #[.int .i64 a.kind, .int .i64 a.reg.val, .int .u32 a.reg.atF.time, .int .i64 a.reg.atF.origin, .int .i64 a.num.plus, .int .i64 a.num.minus, .slice A1 a.setF.adds.length C1, .slice A2 a.setF.gone.length C2, .slice A6 a.map.puts.length C6, .slice A5 a.map.gone.length C5], .agg #[.int .i64 b.kind, .int .i64 b.reg.val, .int .u32 b.reg.atF.time, .int .i64 b.reg.atF.origin, .int .i64 b.num.plus, .int .i64 b.num.minus, .slice A3 b.setF.adds.length C3, .slice A4 b.setF.gone.length C4, .slice A8 b.map.puts.length C8, .slice A7 b.map.gone.length C7]] w fun v w' => v = .bool (r14same_m a b) ∧ Fr [] w w' := by
  refine Fn_of 38 Ty.en_9 Tryz.func9 rfl rfl rfl ?_
  dsimp only [argEnv]
  have st := stn8 hX z9 z10 z14 z13 z11 z12 z16 z15
  have hF := Fr.refl ([]) w
  have z1 := (st.q 0 rfl).le
  have z2 := (st.q 1 rfl).le
  have z6 := (st.q 2 rfl).le
  have z5 := (st.q 3 rfl).le
  have z3 := (st.q 4 rfl).le
  have z4 := (st.q 5 rfl).le
  have z8 := (st.q 6 rfl).le
  have z7 := (st.q 7 rfl).le
  refine sq fun _ k1 => rg (La rfl (Sbx st hF rfl fun g1 w1 (st : St _ _ [_] _) hF hg1 => La rfl (Sbx st hF rfl fun g2 w2 (st : St _ _ [_, _] _) hF hg2 => Ls' rfl (Ln k1 (sq fun _ k2 => rg (Ly rfl (yf rfl Ty.fo_56_0) (Ly rfl (yl 0 Ty.pl_3 st rfl) (Ly rfl (yf rfl Ty.fo_56_0) (Ly rfl (yl 1 Ty.pl_3 st rfl) (Ly rfl (yeq rfl) (Lm rfl (bE (s := 10) rfl (fun hc1 => ?_) (fun hc1 => ?_)))))))))))))
  · refine LyT rfl (yf rfl Ty.fo_56_1) (LyT rfl (ym 0 Ty.ag_47 st rfl) (LyT rfl (yf rfl Ty.fo_56_1) (LyT rfl (ym 1 Ty.ag_47 st rfl) (LyT rfl (y_eqv (b := decide (a.reg = b.reg)) rfl rfl rfl Ty.eg_47 (by rw [Ty.ag_47]; simp) (eqv_47 a.reg b.reg)) ?_))))
    refine Ly rfl (yT rfl) (Lm rfl (bD (s := 17) rfl (fun hc2 => ?_) (fun hc2 => ?_)))
    · refine LyT rfl (yf rfl Ty.fo_56_2) (LyT rfl (ym 0 Ty.ag_48 st rfl) (LyT rfl (yf rfl Ty.fo_56_2) (LyT rfl (ym 1 Ty.ag_48 st rfl) (LyT rfl (y_eqv (b := decide (a.num = b.num)) rfl rfl rfl Ty.eg_48 (by rw [Ty.ag_48]; simp) (eqv_48 a.num b.num)) ?_))))
      refine Ly rfl (yT rfl) (Lm rfl (bD (s := 24) rfl (fun hc3 => ?_) (fun hc3 => ?_)))
      · refine LyT rfl (yf rfl Ty.fo_56_3) (LyT rfl (ym 0 Ty.ag_51 st rfl) (LyT rfl (yf rfl Ty.fo_56_3) (LyT rfl (ym 1 Ty.ag_51 st rfl) (LaT rfl (Scl st hF rfl (r12same_ok (keys (hOf st) ++ X) _ st.Lo a.setF A1 C1 A2 C2 b.setF A3 C3 A4 C4 (st.q 0 rfl) (st.q 1 rfl) (st.q 4 rfl) (st.q 5 rfl)) fun w3 st hF => Ly rfl (yT rfl) (Lm rfl (bB (s := 31) rfl (fun hc4 => ?_) (fun hc4 => ?_))))))))
        · refine LyT rfl (yf rfl Ty.fo_56_4) (LyT rfl (ym 0 Ty.ag_54 st rfl) (LyT rfl (yf rfl Ty.fo_56_4) (LyT rfl (ym 1 Ty.ag_54 st rfl) (LaT rfl (Scl st hF rfl (r13same_ok (keys (hOf st) ++ X) _ st.Lo a.map A6 C6 A5 C5 b.map A8 C8 A7 C7 (st.q 2 rfl) (st.q 3 rfl) (st.q 6 rfl) (st.q 7 rfl)) fun w4 st hF => Ly rfl (yT rfl) (Ls' rfl (Ln k2 (Wp_ret (Fq_ret (Res1 rfl rfl) ?_)))))))))
          unfold r14same_m; rewrite [if_pos hc1, if_pos hc2, if_pos hc3, if_pos hc4]
          exact ⟨rfl, hF⟩
        refine LsF rfl (LsF rfl (LsF rfl (LsF rfl (LsF rfl (Ly rfl (yF rfl) (Ls' rfl (Ln k2 (Wp_ret (Fq_ret (Res1 rfl rfl) ?_)))))))))
        unfold r14same_m; rewrite [if_pos hc1, if_pos hc2, if_pos hc3, if_neg hc4]
        exact ⟨rfl, hF⟩
      refine LsF rfl (LsF rfl (LsF rfl (LsF rfl (LsF rfl (Ly rfl (yF rfl) (Lm rfl (LsF rfl (LsF rfl (LsF rfl (LsF rfl (LsF rfl (Ly rfl (yF rfl) (Ls' rfl (Ln k2 (Wp_ret (Fq_ret (Res1 rfl rfl) ?_))))))))))))))))
      unfold r14same_m; rewrite [if_pos hc1, if_pos hc2, if_neg hc3]
      exact ⟨rfl, hF⟩
    refine LsF rfl (LsF rfl (LsF rfl (LsF rfl (LsF rfl (Ly rfl (yF rfl) (Lm rfl (LsF rfl (LsF rfl (LsF rfl (LsF rfl (LsF rfl (Ly rfl (yF rfl) (Lm rfl (LsF rfl (LsF rfl (LsF rfl (LsF rfl (LsF rfl (Ly rfl (yF rfl) (Ls' rfl (Ln k2 (Wp_ret (Fq_ret (Res1 rfl rfl) ?_)))))))))))))))))))))))
    unfold r14same_m; rewrite [if_pos hc1, if_neg hc2]
    exact ⟨rfl, hF⟩
  refine LsF rfl (LsF rfl (LsF rfl (LsF rfl (LsF rfl (Ly rfl (yF rfl) (Lm rfl (LsF rfl (LsF rfl (LsF rfl (LsF rfl (LsF rfl (Ly rfl (yF rfl) (Lm rfl (LsF rfl (LsF rfl (LsF rfl (LsF rfl (LsF rfl (Ly rfl (yF rfl) (Lm rfl (LsF rfl (LsF rfl (LsF rfl (LsF rfl (LsF rfl (Ly rfl (yF rfl) (Ls' rfl (Ln k2 (Wp_ret (Fq_ret (Res1 rfl rfl) ?_))))))))))))))))))))))))))))))
  unfold r14same_m; rewrite [if_neg hc1]
  exact ⟨rfl, hF⟩

structure ItemM where
  field : List UInt8
  val : Int
instance : Inhabited ItemM := ⟨⟨default, default⟩⟩
instance : DecidableEq ItemM := fun a b => decidable_of_iff (a.field = b.field ∧ a.val = b.val) (by cases a; cases b; simp)
def itemMC (x : ItemM) : List Value := [sv x.field, .int .i64 x.val]
theorem itemMC_len (x : ItemM) : (itemMC x).length = 2 := rfl
theorem itemMC_1 (x : ItemM) : ∀ v ∈ itemMC x, v.oneCell' = true := all_one rfl
theorem eqv_112r (a0 : List UInt8) (a1 : Int) (b0 : List UInt8) (b1 : Int) : eqVals Tryz.prog 8 112 [sv a0, .int .i64 a1] [sv b0, .int .i64 b1] = some ((a0 == b0) && ((a1 == b1) && true)) := by kernel_rfl
theorem eqv_112 (x y : ItemM) : eqVals Tryz.prog 8 112 (itemMC x) (itemMC y) = some (decide (x = y)) := by
  obtain ⟨a0, a1⟩ := x
  obtain ⟨b0, b1⟩ := y
  refine (eqv_112r a0 a1 b0 b1).trans (congrArg some ?_)
  rw [Bool.eq_iff_iff]
  simp
def sameItems_L1 (a : List ItemM) (b : List ItemM) : Nat → Int → (Bool) ⊕ (Int)
  | 0, s5 => .inr (s5)
  | fuel + 1, s5 =>
    if s5 < (a.length : Int) then
      if ix a s5 = ix b s5 then
        sameItems_L1 a b fuel (s5 + 1)
      else
        .inl false
    else
      .inr (s5)
def sameItems_m (a : List ItemM) (b : List ItemM) : Bool :=
  if (a.length : Int) = (b.length : Int) then
    match sameItems_L1 a b (((a.length : Int) - (0 : Int)).toNat + 1) (0 : Int) with
    | .inl r => r
    | .inr (s5) =>
      true
  else
    false


set_option maxRecDepth 20000 in
theorem sameItems_ok (X : List Nat) (w : World) (hX : Lo X w) (a : List ItemM) (A_a : Option Addr) (c_a : Nat) (b : List ItemM) (A_b : Option Addr) (c_b : Nat) (h_a : Sld X w A_a a.length c_a 2 (a.flatMap itemMC)) (h_b : Sld X w A_b b.length c_b 2 (b.flatMap itemMC)) :
    Fn Tryz.prog 33 [.slice A_a a.length c_a, .slice A_b b.length c_b] w fun v w' => v = .bool (sameItems_m a b) ∧ Fr [] w w' := by
  refine Fn_of 26 Ty.en_33 Tryz.func33 rfl rfl rfl ?_
  dsimp only [argEnv]
  have st := stn2 hX h_a h_b
  have hF := Fr.refl ([]) w
  have z1 := (st.q 0 rfl).le
  have z2 := (st.q 1 rfl).le
  refine sq fun _ k1 => rg (Ls' rfl (Ln k1 (sq fun _ k2 => sq fun _ k3 => rg (Lm rfl (Ly rfl (yll rfl Tryz.underlying69) (Lm rfl (Ly rfl (yll rfl Tryz.underlying69) (Ly rfl (yne rfl) (Ln k3 (cN rfl (fun hc1 => ?_) (fun hc1 => ?_)))))))))))
  · refine sq fun _ k4 => rg (Ls' rfl (Ln k4 (Wp_ret (Th_r (Fq_ret (Res1 rfl rfl) ?_)))))
    unfold sameItems_m; rewrite [if_neg hc1]
    exact ⟨rfl, hF⟩
  refine sk k2 (sq fun _ k5 => sq fun _ k6 => rg (Ls' rfl (Ln k6 (Wp_block (lp (fun q E W => ∃ (s5 : Int), E = [(0, .slice A_a a.length c_a), (1, .slice A_b b.length c_b), (5, .int .i64 s5)] ∧ jq q (fun m => (sameItems_L1 a b m s5 = sameItems_L1 a b (((a.length : Int) - (0 : Int)).toNat + 1) (0 : Int) ∧ ((a.length : Int) - s5).toNat < m)) (sameItems_L1 a b (((a.length : Int) - (0 : Int)).toNat + 1) (0 : Int) = .inr (s5)) ∧ (0 ≤ s5) ∧ St X W [] [kS A_a a.length c_a 2 (a.flatMap itemMC), kS A_b b.length c_b 2 (b.flatMap itemMC)] ∧ Fr ([]) w W) (((a.length : Int) - (0 : Int)).toNat + 1) [(0, _), (1, _), (5, _)] ⟨rfl, rfl, rfl, trivial⟩ ⟨_, rfl, ⟨rfl, Nat.lt_succ_self _⟩, by first | omega | (simp; done) | (simp; omega), st, hF⟩ k5 ?_ fun hout1 => ?_)))))
  · rintro E w1 ⟨s5, rfl, hLk1, hinv, st, hF⟩
    unfold jq at hLk1; dsimp only at hLk1
    refine sq fun _ k7 => rg (Ls' rfl (Ln k7 (Wp_ret (Fq_ret (Res1 rfl rfl) ?_))))
    unfold sameItems_m; rewrite [if_pos hc1, hLk1]; (try dsimp only)
    exact ⟨rfl, hF⟩
  rintro m E w2 ⟨s5, rfl, ⟨hL1, hmu⟩, hinv, st, hF⟩
  obtain ⟨fuel, rfl⟩ : ∃ q, m = q + 1 := ⟨m - 1, by omega⟩
  refine sq fun _ k8 => sq fun _ k9 => rg (Lm rfl (Lm rfl (Ly rfl (yll rfl Tryz.underlying69) (Ly rfl (ylt rfl) (Ln k9 (cD rfl (fun hc2 => ?_) (fun hc2 => ?_)))))))
  · refine sk k8 (sq fun _ k10 => Wp_block (sq fun _ k11 => ?_))
    refine Wp_plan (fun W => St X W (pickL (hOf st) []) (kOf st)) [(true, 0), (true, 1), (true, 2), (true, 3), (true, 4), (true, 5), (true, 6), (true, 7), (true, 8)] Ty.mx_0 (by kernel_rfl) (by kernel_rfl) rfl ((st.picks [] (by decide)).drew) ?_
    have st := st.drew
    have hF := hF.step0 (Fr.drew _)
    refine Pm rfl (Pm rfl ?_)
    obtain ⟨gi1, bi1, egi1⟩ := (st.k (i := 0) rfl).addr (fun _ => rfl) (by decide) (q := s5) (by first | omega | (simp; done) | (simp; omega)) (by first | omega | (simp; done) | (simp; omega))
    subst egi1
    refine Py rfl (y_ixa (q := s5) rfl rfl rfl Ty.es_69 (by first | omega | (simp; done) | (simp; omega)) (by first | omega | (simp; done) | (simp; omega))) ?_
    refine Py rfl (y_ldk (q := s5) rfl rfl Ty.ag_112 (fun _ h => h.k (i := 0) rfl) (fun _ => rfl) (by first | omega | (simp; done) | (simp; omega)) (by first | omega | (simp; done) | (simp; omega))) ?_
    refine Pm rfl (Pm rfl ?_)
    obtain ⟨gi2, bi2, egi2⟩ := (st.k (i := 1) rfl).addr (fun _ => rfl) (by decide) (q := s5) (by first | omega | (simp; done) | (simp; omega)) (by first | omega | (simp; done) | (simp; omega))
    subst egi2
    refine Py rfl (y_ixa (q := s5) rfl rfl rfl Ty.es_69 (by first | omega | (simp; done) | (simp; omega)) (by first | omega | (simp; done) | (simp; omega))) ?_
    refine Py rfl (y_ldk (q := s5) rfl rfl Ty.ag_112 (fun _ h => h.k (i := 1) rfl) (fun _ => rfl) (by first | omega | (simp; done) | (simp; omega)) (by first | omega | (simp; done) | (simp; omega))) ?_
    refine Py rfl (y_nev (b := decide (ix a s5 = ix b s5)) rfl rfl rfl Ty.eg_112 (by rw [Ty.ag_112]; simp) (eqv_112 (ix a s5) (ix b s5))) ?_
    refine Pl_nil (Th_n (k11 _ _ (cDn rfl (fun hc3 => ?_) (fun hc3 => ?_))))
    · refine sq fun _ k12 => rg (Ls' rfl (Ln k12 (Wp_ret (Ib_r (Th_r (Th_r (Ib_r (Th_r (Fq_ret (Res1 rfl rfl) ?_)))))))))
      have hret1 : sameItems_L1 a b (((a.length : Int) - (0 : Int)).toNat + 1) (0 : Int) = .inl false := by rewrite [← hL1, sameItems_L1]; rewrite [if_pos hc2, if_neg hc3]; rfl
      have he3 : sameItems_m a b = false := by unfold sameItems_m; rewrite [if_pos hc1, hret1]; (try dsimp only); all_goals rfl
      rewrite [he3]
      exact ⟨rfl, hF⟩
    refine Wp_skip (Ib_n (Th_n (k10 _ _ (rg (Lm rfl (Ly rfl (y_add (c := s5 + 1) rfl rfl rfl (wf_i64 (by first | omega | (simp; done) | (simp; omega)))) ?_))))))
    refine Ls' rfl (Ls_nil (Th_n (?_)))
    exact ⟨fuel, [(0, _), (1, _), (5, _)], Nat.lt_succ_self _, ⟨rfl, rfl, rfl, trivial⟩, (s5 + 1), rfl, ⟨by rewrite [← hL1, sameItems_L1]; rewrite [if_pos hc2, if_pos hc3]; rfl, by first | omega | (simp; done) | (simp; omega)⟩, by first | omega | (simp; done) | (simp; omega), (st.picks [] (by decide)).pickK [0, 1], hF⟩
  refine Wp_exit (Th_e (Th_e (Ib_hit (Th_n (?_)))))
  exact hout1 _ [(0, _), (1, _), (5, _)] _ ⟨rfl, rfl, rfl, trivial⟩ ⟨s5, rfl, show _ = _ from by rewrite [← hL1, sameItems_L1]; rewrite [if_neg hc2]; rfl, by first | omega | (simp; done) | (simp; omega), (st.picks [] (by decide)).pickK [0, 1], hF⟩

structure ValueM where
  kind : Int
  val : Int
  items : List ItemM
instance : Inhabited ValueM := ⟨⟨default, default, default⟩⟩
instance : DecidableEq ValueM := fun a b => decidable_of_iff (a.kind = b.kind ∧ a.val = b.val ∧ a.items = b.items) (by cases a; cases b; simp)
def sameValue_m (a : ValueM) (b : ValueM) : Bool :=
  if a.kind = b.kind then
    if a.val = b.val then
      sameItems_m a.items b.items
    else
      false
  else
    false


set_option maxRecDepth 20000 in
theorem sameValue_ok (X : List Nat) (w : World) (hX : Lo X w) (a : ValueM) (A1 : Option Addr) (C1 : Nat) (b : ValueM) (A2 : Option Addr) (C2 : Nat) (z3 : Sld X w A1 a.items.length C1 2 (a.items.flatMap itemMC)) (z4 : Sld X w A2 b.items.length C2 2 (b.items.flatMap itemMC)) :
    Fn Tryz.prog 11 [.agg #[.int .i64 a.kind, .int .i64 a.val, .slice A1 a.items.length C1], .agg #[.int .i64 b.kind, .int .i64 b.val, .slice A2 b.items.length C2]] w fun v w' => v = .bool (sameValue_m a b) ∧ Fr [] w w' := by
  refine Fn_of 24 Ty.en_11 Tryz.func11 rfl rfl rfl ?_
  dsimp only [argEnv]
  have st := stn2 hX z3 z4
  have hF := Fr.refl ([]) w
  have z1 := (st.q 0 rfl).le
  have z2 := (st.q 1 rfl).le
  refine sq fun _ k1 => rg (La rfl (Sbx st hF rfl fun g1 w1 (st : St _ _ [_] _) hF hg1 => La rfl (Sbx st hF rfl fun g2 w2 (st : St _ _ [_, _] _) hF hg2 => Ls' rfl (Ln k1 (sq fun _ k2 => rg (Ly rfl (yf rfl Ty.fo_71_0) (Ly rfl (yl 0 Ty.pl_3 st rfl) (Ly rfl (yf rfl Ty.fo_71_0) (Ly rfl (yl 1 Ty.pl_3 st rfl) (Ly rfl (yeq rfl) (Lm rfl (bE (s := 10) rfl (fun hc1 => ?_) (fun hc1 => ?_)))))))))))))
  · refine LyT rfl (yf rfl Ty.fo_71_1) (LyT rfl (yl 0 Ty.pl_2 st rfl) (LyT rfl (yf rfl Ty.fo_71_1) (LyT rfl (yl 1 Ty.pl_2 st rfl) (LyT rfl (yeq rfl) (Ly rfl (yT rfl) (Lm rfl (bE (s := 17) rfl (fun hc2 => ?_) (fun hc2 => ?_))))))))
    · refine LyT rfl (yf rfl Ty.fo_71_2) (LyT rfl (yl 0 Ty.pl_69 st rfl) (LyT rfl (yf rfl Ty.fo_71_2) (LyT rfl (yl 1 Ty.pl_69 st rfl) (LaT rfl (Scl st hF rfl (sameItems_ok (keys (hOf st) ++ X) _ st.Lo a.items A1 C1 b.items A2 C2 (st.q 0 rfl) (st.q 1 rfl)) fun w3 st hF => Ly rfl (yT rfl) (Ls' rfl (Ln k2 (Wp_ret (Fq_ret (Res1 rfl rfl) ?_)))))))))
      unfold sameValue_m; rewrite [if_pos hc1, if_pos hc2]
      exact ⟨rfl, hF⟩
    refine LsF rfl (LsF rfl (LsF rfl (LsF rfl (LsF rfl (Ly rfl (yF rfl) (Ls' rfl (Ln k2 (Wp_ret (Fq_ret (Res1 rfl rfl) ?_)))))))))
    unfold sameValue_m; rewrite [if_pos hc1, if_neg hc2]
    exact ⟨rfl, hF⟩
  refine LsF rfl (LsF rfl (LsF rfl (LsF rfl (LsF rfl (Ly rfl (yF rfl) (Lm rfl (LsF rfl (LsF rfl (LsF rfl (LsF rfl (LsF rfl (Ly rfl (yF rfl) (Ls' rfl (Ln k2 (Wp_ret (Fq_ret (Res1 rfl rfl) ?_))))))))))))))))
  unfold sameValue_m; rewrite [if_neg hc1]
  exact ⟨rfl, hF⟩

end Go.Proofs.YtngofknckkiboaaGreatDoor

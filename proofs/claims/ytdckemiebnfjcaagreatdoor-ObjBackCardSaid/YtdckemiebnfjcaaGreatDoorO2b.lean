/- Walks printed by gen2.py out of our own specifications: what the functions named below do. -/
import Derived.Test.YtdckemiebnfjcaaGreatDoorSc
import Derived.Test.YtdckemiebnfjcaaGreatDoorO2
set_option linter.unusedSimpArgs false
set_option linter.unusedVariables false
set_option maxRecDepth 20000
namespace Go.Proofs.YtdckemiebnfjcaaGreatDoor
open Go.RowKit
def mnotTag_m (t : TagM) : Bool :=
  (icheckTag_m t) != 0
theorem mnotTag_ok (w : World) (t : TagM) :
    Fn Tryz.prog 92 [.agg (tagMC t).toArray] w fun v w' => v = .bool (mnotTag_m t) ∧ Fr [] w w' := by
  refine Fn_of 6 Ty.en_92 Tryz.func92 rfl rfl rfl ?_
  dsimp only [argEnv]
  have st := stn0 (X := []) (w := w) (by simp [Lo])
  have hF := Fr.refl ([]) w
  refine sq fun _ k1 => rg (La rfl (Sbx st hF rfl fun g1 w1 (st : St _ _ [_] _) hF hg1 => Ls' rfl (Ln k1 (sq fun _ k2 => rg (Ly rfl (yw 0 Ty.ag_43 st rfl) (La rfl (Scl st hF rfl (icheckTag_ok _ t) fun w2 st hF => Ly rfl (yne rfl) (Ls' rfl (Ln k2 (wR (fR (Res1 rfl rfl) ?_)))))))))))
  unfold mnotTag_m
  exact ⟨rfl, hF⟩
def mrise_L1 (l : List TagM) : Nat → Int → (Bool) ⊕ (Int)
  | 0, s3 => .inr (s3)
  | fuel + 1, s3 =>
    if s3 < (l.length : Int) then
      if 0 ≤ (icompareTag_m (ix l (s3 - 1)) (ix l s3)) then
        .inl false
      else
        mrise_L1 l fuel (s3 + 1)
    else
      .inr (s3)
def mrise_m (l : List TagM) : Bool :=
  match mrise_L1 l (((l.length : Int) - (1 : Int)).toNat + 1) (1 : Int) with
  | .inl r => r
  | .inr (s3) =>
    true
theorem mrise_ok (X : List Nat) (w : World) (hX : Lo X w) (l : List TagM) (A_l : Option Addr) (c_l : Nat) (h_l : Sld X w A_l l.length c_l 3 (l.flatMap tagMC)) :
    Fn Tryz.prog 132 [.slice A_l l.length c_l] w fun v w' => v = .bool (mrise_m l) ∧ Fr [] w w' := by
  refine Fn_of 21 Ty.en_132 Tryz.func132 rfl rfl rfl ?_
  dsimp only [argEnv]
  have st := stn1 hX h_l
  have hF := Fr.refl ([]) w
  have z1 := (st.q 0 rfl).le
  refine sq fun _ k1 => rg (Ls' rfl (Ln k1 (sq fun _ k2 => sq fun _ k3 => rg (Ls' rfl (Ln k3 (Wp_block (lp (fun q E W => ∃ (s3 : Int), E = [(0, .slice A_l l.length c_l), (3, .int .i64 s3)] ∧ jq q (fun m => (mrise_L1 l m s3 = mrise_L1 l (((l.length : Int) - (1 : Int)).toNat + 1) (1 : Int) ∧ ((l.length : Int) - s3).toNat < m)) (mrise_L1 l (((l.length : Int) - (1 : Int)).toNat + 1) (1 : Int) = .inr (s3)) ∧ (1 ≤ s3) ∧ St X W [] [kS A_l l.length c_l 3 (l.flatMap tagMC)] ∧ Fr ([]) w W) (((l.length : Int) - (1 : Int)).toNat + 1) [(0, _), (3, _)] ⟨rfl, rfl, trivial⟩ ⟨_, rfl, ⟨rfl, Nat.lt_succ_self _⟩, by first | omega | (simp; done) | (simp; omega), st, hF⟩ k2 ?_ fun hout1 => ?_)))))))
  · rintro E w1 ⟨s3, rfl, hLk1, hinv, st, hF⟩
    unfold jq at hLk1; dsimp only at hLk1
    refine sq fun _ k4 => rg (Ls' rfl (Ln k4 (wR (fR (Res1 rfl rfl) ?_))))
    unfold mrise_m; rewrite [hLk1]; (try dsimp only)
    exact ⟨rfl, hF⟩
  rintro m E w2 ⟨s3, rfl, ⟨hL1, hmu⟩, hinv, st, hF⟩
  obtain ⟨fuel, rfl⟩ : ∃ q, m = q + 1 := ⟨m - 1, by omega⟩
  refine sq fun _ k5 => sq fun _ k6 => rg (Lm rfl (Lm rfl (Ly rfl (yll rfl Tryz.underlying30) (Ly rfl (ylt rfl) (Ln k6 (cD rfl (fun hc1 => ?_) (fun hc1 => ?_)))))))
  · refine sk k5 (sq fun _ k7 => Wp_block (sq fun _ k8 => ?_))
    refine Wp_plan (fun W => St X W (pickL (hOf st) []) (kOf st)) [(true, 0), (true, 1), (true, 2), (true, 3), (true, 4), (true, 5), (true, 6), (true, 7), (true, 8), (false, 9), (true, 10)] Ty.mx_0 (by kernel_rfl) (by kernel_rfl) rfl ((st.pk [] (by decide)).drew) ?_
    have st := st.drew
    have hF := hF.step0 (Fr.drew _)
    refine Pm rfl (Pm rfl (Py rfl (y_sub (c := s3 - 1) rfl rfl rfl (wf_i64 (by first | omega | (simp; done) | (simp; omega)))) ?_))
    obtain ⟨gi1, bi1, egi1⟩ := (st.k (i := 0) rfl).addr (fun _ => rfl) (by decide) (q := s3 - 1) (by first | omega | (simp; done) | (simp; omega)) (by first | omega | (simp; done) | (simp; omega))
    subst egi1
    refine Py rfl (y_ixa (q := s3 - 1) rfl rfl rfl Ty.es_30 (by first | omega | (simp; done) | (simp; omega)) (by first | omega | (simp; done) | (simp; omega))) ?_
    refine Py rfl (y_ldk (q := s3 - 1) rfl rfl Ty.ag_43 (fun _ h => h.k (i := 0) rfl) (fun _ => rfl) (by first | omega | (simp; done) | (simp; omega)) (by first | omega | (simp; done) | (simp; omega))) ?_
    refine Pm rfl (Pm rfl (Py rfl (y_ixa (q := s3) rfl rfl rfl Ty.es_30 (by first | omega | (simp; done) | (simp; omega)) (by first | omega | (simp; done) | (simp; omega))) ?_))
    refine Py rfl (y_ldk (q := s3) rfl rfl Ty.ag_43 (fun _ h => h.k (i := 0) rfl) (fun _ => rfl) (by first | omega | (simp; done) | (simp; omega)) (by first | omega | (simp; done) | (simp; omega))) ?_
    refine Pl_a rfl (wtd0 rfl) (by rfl) ?_
    refine Scl st hF rfl (icompareTag_ok _ (ix l (s3 - 1)) (ix l s3)) fun w3 st hF => ?_
    refine ⟨(st.pk [] (by decide)).tK 1, ?_⟩
    refine Py rfl (yge rfl) (Pl_nil (Th_n (k8 _ _ (cD rfl (fun hc2 => ?_) (fun hc2 => ?_)))))
    · refine sq fun _ k9 => rg (Ls' rfl (Ln k9 (wR (Ib_r (Th_r (Th_r (Ib_r (Th_r (fR (Res1 rfl rfl) ?_)))))))))
      have hret1 : mrise_L1 l (((l.length : Int) - (1 : Int)).toNat + 1) (1 : Int) = .inl false := by rewrite [← hL1, mrise_L1]; rewrite [iP hc1, iP hc2]; rfl
      have he2 : mrise_m l = false := by unfold mrise_m; rewrite [hret1]; (try dsimp only); all_goals rfl
      rewrite [he2]
      exact ⟨rfl, hF⟩
    refine Wp_skip (Ib_n (Th_n (k7 _ _ (rg (Lm rfl (Ly rfl (y_add (c := s3 + 1) rfl rfl rfl (wf_i64 (by first | omega | (simp; done) | (simp; omega)))) ?_))))))
    refine Ls' rfl (Ls_nil (Th_n (?_)))
    exact ⟨fuel, [(0, _), (3, _)], Nat.lt_succ_self _, ⟨rfl, rfl, trivial⟩, (s3 + 1), rfl, ⟨by rewrite [← hL1, mrise_L1]; rewrite [iP hc1, iN hc2]; rfl, by first | omega | (simp; done) | (simp; omega)⟩, by first | omega | (simp; done) | (simp; omega), (st.pk [] (by decide)).pickK [0], hF⟩
  refine Wp_exit (Th_e (Th_e (Ib_hit (Th_n (?_)))))
  exact hout1 _ [(0, _), (3, _)] _ ⟨rfl, rfl, trivial⟩ ⟨s3, rfl, show _ = _ from by rewrite [← hL1, mrise_L1]; rewrite [iN hc1]; rfl, by first | omega | (simp; done) | (simp; omega), (st.pk [] (by decide)).pickK [0], hF⟩
def mhas_m (l : List TagM) (t : TagM) : Bool :=
  (bsearch_m l t icompareTag_m).2
theorem mhas_ok (X : List Nat) (w : World) (hX : Lo X w) (l : List TagM) (A_l : Option Addr) (c_l : Nat) (t : TagM) (h_l : Sld X w A_l l.length c_l 3 (l.flatMap tagMC)) (h2 : l.length ≤ 1000000) :
    Fn Tryz.prog 96 [.slice A_l l.length c_l, .agg (tagMC t).toArray] w fun v w' => v = .bool (mhas_m l t) ∧ Fr [] w w' := by
  refine Fn_of 14 Ty.en_96 Tryz.func96 rfl rfl rfl ?_
  dsimp only [argEnv]
  have st := stn1 hX h_l
  have hF := Fr.refl ([]) w
  have z1 := (st.q 0 rfl).le
  refine sq fun _ k1 => rg (La rfl (Sbx st hF rfl fun g1 w1 (st : St _ _ [_] _) hF hg1 => Ls' rfl (Ln k1 (sq fun _ k2 => rg (Lm rfl (Ly rfl (yw 0 Ty.ag_43 st rfl) (La rfl (Scl st hF rfl (bsearch_ok (keys (hOf st) ++ X) _ st.Lo l A_l c_l t (.func (.func 68) #[] #[]) icompareTag_m (st.q 0 rfl) (fun w1 x0 x1 _ => FnV.of (icompareTag_ok w1 x0 x1)) h2) fun w2 st hF => Lm rfl (Lx rfl (Lx rfl (Ls' rfl (Ls' rfl (Ln k2 (sq fun _ k3 => rg (Lm rfl (Ls' rfl (Ln k3 (wR (fR (Res1 rfl rfl) ?_)))))))))))))))))))
  unfold mhas_m
  exact ⟨rfl, hF⟩
def mright_m (p : PutM) : Bool :=
  if p.field = [] then
    false
  else
    if (p.field.length : Int) ≤ 12 then
      if (lcheck_m p.atF) = 0 then
        decide (0 < p.atF.time)
      else
        false
    else
      false
theorem mright_ok (w : World) (p : PutM) :
    Fn Tryz.prog 93 [.agg (putMC p).toArray] w fun v w' => v = .bool (mright_m p) ∧ Fr [] w w' := by
  refine Fn_of 24 Ty.en_93 Tryz.func93 rfl rfl rfl ?_
  dsimp only [argEnv]
  have st := stn0 (X := []) (w := w) (by simp [Lo])
  have hF := Fr.refl ([]) w
  refine sq fun _ k1 => rg (La rfl (Sbx st hF rfl fun g1 w1 (st : St _ _ [_] _) hF hg1 => Ls' rfl (Ln k1 (sq fun _ k2 => rg (Ly rfl (yf rfl Ty.fo_131_1) (Ly rfl (yl 0 Ty.pl_9 st rfl) (Ly rfl (y_nes rfl rfl rfl) (Lm rfl (bN (s := 6) rfl (fun hc1 => ?_) (fun hc1 => ?_))))))))))
  · refine LyT rfl (yf rfl Ty.fo_131_1) (LyT rfl (yl 0 Ty.pl_9 st rfl) (LyT rfl (y_lens rfl rfl Tryz.underlying9) (LyT rfl (yle rfl) (Ly rfl (yT rfl) (Lm rfl (bD (s := 12) rfl (fun hc2 => ?_) (fun hc2 => ?_)))))))
    · refine LyT rfl (yf rfl Ty.fo_131_3) (LyT rfl (ym 0 Ty.ag_24 st rfl) (LaT rfl (Scl st hF rfl (lcheck_ok _ p.atF) fun w2 st hF => LyT rfl (yeq rfl) (Ly rfl (yT rfl) (Lm rfl (bE (s := 18) rfl (fun hc3 => ?_) (fun hc3 => ?_)))))))
      · refine LyT rfl (yf rfl Ty.fo_131_3) (LyT rfl (yf rfl Ty.fo_24_0) (LyT rfl (yl 0 Ty.pl_22 st rfl) (LyT rfl (ygt rfl) (Ly rfl (yT rfl) (Ls' rfl (Ln k2 (wR (fR (Res1 rfl rfl) ?_))))))))
        unfold mright_m; rewrite [iN hc1, iP hc2, iP hc3]
        exact ⟨rfl, hF⟩
      refine LsF rfl (LsF rfl (LsF rfl (LsF rfl (Ly rfl (yF rfl) (Ls' rfl (Ln k2 (wR (fR (Res1 rfl rfl) ?_))))))))
      unfold mright_m; rewrite [iN hc1, iP hc2, iN hc3]
      exact ⟨rfl, hF⟩
    refine LsF rfl (LsF rfl (LsF rfl (LsF rfl (Ly rfl (yF rfl) (Lm rfl (LsF rfl (LsF rfl (LsF rfl (LsF rfl (Ly rfl (yF rfl) (Ls' rfl (Ln k2 (wR (fR (Res1 rfl rfl) ?_))))))))))))))
    unfold mright_m; rewrite [iN hc1, iN hc2]
    exact ⟨rfl, hF⟩
  refine LsF rfl (LsF rfl (LsF rfl (LsF rfl (Ly rfl (yF rfl) (Lm rfl (LsF rfl (LsF rfl (LsF rfl (LsF rfl (Ly rfl (yF rfl) (Lm rfl (LsF rfl (LsF rfl (LsF rfl (LsF rfl (Ly rfl (yF rfl) (Ls' rfl (Ln k2 (wR (fR (Res1 rfl rfl) ?_))))))))))))))))))))
  unfold mright_m; rewrite [iP hc1]
  exact ⟨rfl, hF⟩
def mtags_L1 (l : List PutM) : Nat → (List TagM) → Int → ((List TagM)) ⊕ ((List TagM) × Int)
  | 0, s3, s8 => .inr (s3, s8)
  | fuel + 1, s3, s8 =>
    if s8 < (l.length : Int) then
      mtags_L1 l fuel (s3 ++ [(ix l s8).tag]) (s8 + 1)
    else
      .inr (s3, s8)
def mtags_m (l : List PutM) : (List TagM) :=
  match mtags_L1 l (((l.length : Int) - (0 : Int)).toNat + 1) ([] : List TagM) (0 : Int) with
  | .inl r => r
  | .inr (s3, s8) =>
    s3
theorem mtags_ok (X : List Nat) (w : World) (hX : Lo X w) (l : List PutM) (A_l : Option Addr) (c_l : Nat) (h_l : Sld X w A_l l.length c_l 7 (l.flatMap putMC)) (hl : l.length ≤ 1000000) :
    Fn Tryz.prog 65 [.slice A_l l.length c_l] w fun v w' => ∃ (Ar : Option Addr) (cr : Nat), v = .slice Ar (mtags_m l).length cr ∧ Sld X w' Ar (mtags_m l).length cr 3 ((mtags_m l).flatMap tagMC) ∧ Fr [] w w' := by
  refine Fn_of 19 Ty.en_65 Tryz.func65 rfl rfl rfl ?_
  dsimp only [argEnv]
  have st := stn1 hX h_l
  have hF := Fr.refl ([]) w
  have z2 := (st.q 0 rfl).le
  refine sq fun _ k1 => rg (Ls' rfl (Ln k1 (sq fun _ k2 => rg (Ls' rfl (Ln k2 (sq fun _ k3 => sq fun _ k4 => rg (Lm rfl (Ly rfl (yll rfl Tryz.underlying53) (Lm rfl (Ln k4 (Wp_block ?_)))))))))))
  obtain ⟨st, how1, hnew1⟩ := st.rowN tagMC hF 3 43
  have st : St _ _ [_] _ := st
  refine lp (fun q E W => ∃ (s3 : List TagM) (s8 : Int) (As3 : Option Addr) (cs3 : Nat) (sps3 : List Value), E = [(3, .slice As3 s3.length cs3), (6, .slice A_l l.length c_l), (7, .int .i64 (l.length : Int)), (8, .int .i64 s8)] ∧ jq q (fun m => (mtags_L1 l m s3 s8 = mtags_L1 l (((l.length : Int) - (0 : Int)).toNat + 1) ([] : List TagM) (0 : Int) ∧ ((l.length : Int) - s8).toNat < m)) (mtags_L1 l (((l.length : Int) - (0 : Int)).toNat + 1) ([] : List TagM) (0 : Int) = .inr (s3, s8)) ∧ (0 ≤ s8 ∧ (s3.length : Int) ≤ s8) ∧ Ow As3 s3.length cs3 3 (s3.flatMap tagMC) sps3 ∧ (∀ g, blkOf As3 = some g → g ∈ ([]) ∨ w.heap.size ≤ g) ∧ St X W [(blkOf As3, Cl (s3.flatMap tagMC ++ sps3) 43)] [kS A_l l.length c_l 7 (l.flatMap putMC)] ∧ Fr ([]) w W) (((l.length : Int) - (0 : Int)).toNat + 1) [(3, _), (6, _), (7, _), (8, _)] ⟨rfl, rfl, rfl, rfl, trivial⟩ ⟨_, _, _, _, _, rfl, ⟨rfl, Nat.lt_succ_self _⟩, by first | omega | (simp; done) | (simp; omega), how1, hnew1, st, hF⟩ k3 ?_ fun hout1 => ?_
  · rintro E w1 ⟨s3, s8, As3, cs3, sps3, rfl, hLk1, hinv, hows3, news3, st, hF⟩
    unfold jq at hLk1; dsimp only at hLk1
    refine sq fun _ k5 => rg (Lm rfl (Ls' rfl (Ln k5 ?_)))
    have st : St X w1 [] [_, _] := st.freeze (i := 0) [] (by decide) rfl hows3 (by decide)
    refine wR (fR (Res1 rfl rfl) ?_)
    unfold mtags_m; rewrite [hLk1]; (try dsimp only)
    exact ⟨_, _, rfl, st.ot 1 rfl, hF⟩
  rintro m E w2 ⟨s3, s8, As3, cs3, sps3, rfl, ⟨hL1, hmu⟩, hinv, hows3, news3, st, hF⟩
  obtain ⟨fuel, rfl⟩ : ∃ q, m = q + 1 := ⟨m - 1, by omega⟩
  have z1 := Ow.le hows3
  refine sq fun _ k6 => rg (Ly rfl (ylt rfl) (Ln k6 (sq fun _ k7 => cD rfl (fun hc1 => ?_) (fun hc1 => ?_))))
  · refine sk k7 (sq fun _ k8 => Wp_block (sq fun _ k9 => rg ?_))
    obtain ⟨gi1, bi1, egi1⟩ := (st.k (i := 0) rfl).addr (fun _ => rfl) (by decide) (q := s8) (by first | omega | (simp; done) | (simp; omega)) (by first | omega | (simp; done) | (simp; omega))
    subst egi1
    refine Ly rfl (y_ixa (q := s8) rfl rfl rfl Ty.es_53 (by first | omega | (simp; done) | (simp; omega)) (by first | omega | (simp; done) | (simp; omega))) ?_
    refine Ly rfl (y_ldk (q := s8) rfl rfl Ty.ag_131 (fun _ e => e ▸ st.k (i := 0) rfl) (fun _ => rfl) (by first | omega | (simp; done) | (simp; omega)) (by first | omega | (simp; done) | (simp; omega))) ?_
    refine La rfl (Sal Ty.zc_131 st hF rfl fun g1 w3 (st : St _ _ [_, _] _) hF hg1 => La rfl (Ssw 1 Ty.sz_131 st hF (.inr hg1) rfl fun w4 (st : St _ _ [_, _] _) hF => Ln k9 (rg (Lm rfl (Ly rfl (yf rfl Ty.fo_131_0) (Ly rfl (ym 1 Ty.ag_43 st rfl) (La rfl (Sb (enc := tagMC) ((ix l s8).tag) Ty.es_30 Ty.zc_43 (fun _ => rfl) st hF rfl fun g2 w5 how2 hnew2 (st : St _ _ [_, _, _] _) hF => La rfl (Sap (enc := tagMC) s3 [(ix l s8).tag] 0 Ty.es_30 Ty.zc_43 Ty.by_43 (fun _ => rfl) tagMC_1 hows3 news3 st hF (own_src (i := 2) st.hp rfl how2) (own_none how2) rfl (by first | omega | (simp; done) | (simp; omega)) (by first | omega | (simp; done) | (simp; omega)) fun Aa1 ca1 sp1 w6 how3 hnew3 (st : St _ _ [_, _, _] _) hF => ?_)))))))))
    refine Ls' rfl (Ls_nil (Ib_n (Th_n (k8 _ _ (rg (Ly rfl (y_add (c := s8 + 1) rfl rfl rfl (wf_i64 (by first | omega | (simp; done) | (simp; omega)))) ?_))))))
    refine Lm rfl (Ls_nil (Th_n (?_)))
    exact ⟨fuel, [(3, _), (6, _), (7, _), (8, _)], Nat.lt_succ_self _, ⟨rfl, rfl, rfl, rfl, trivial⟩, (s3 ++ [(ix l s8).tag]), (s8 + 1), Aa1, ca1, sp1, rfl, ⟨by rewrite [← hL1, mtags_L1]; rewrite [iP hc1]; rfl, by first | omega | (simp; done) | (simp; omega)⟩, by first | omega | (simp; done) | (simp; omega), how3, hnew3, (st.pk [0] (by decide)).pickK [0], hF⟩
  refine Wp_exit (Th_e (Th_e (Ib_hit (Th_n (?_)))))
  exact hout1 _ [(3, _), (6, _), (7, _), (8, _)] _ ⟨rfl, rfl, rfl, rfl, trivial⟩ ⟨s3, s8, As3, cs3, sps3, rfl, show _ = _ from by rewrite [← hL1, mtags_L1]; rewrite [iN hc1]; rfl, by first | omega | (simp; done) | (simp; omega), hows3, news3, (st.pk [0] (by decide)).pickK [0], hF⟩
structure MapM where
  puts : List PutM
  gone : List TagM
instance : Inhabited MapM := ⟨⟨default, default⟩⟩
instance : DecidableEq MapM := fun a b => decidable_of_iff (a.puts = b.puts ∧ a.gone = b.gone) (by cases a; cases b; simp)
def mcheck_c1 (s : MapM) : Bool :=
  (if 4096 < (s.puts.length : Int) then true else decide (4096 < (s.gone.length : Int)))
def mcheck_c2 (s : MapM) : Bool :=
  (if (containsF_m (mtags_m s.puts) mnotTag_m) = true then true else containsF_m s.gone mnotTag_m)
def mcheck_c3 (s : MapM) : Bool :=
  (if (mrise_m (mtags_m s.puts)) = true then !(mrise_m s.gone) else true)
def mcheck_c4 (s : MapM) (s38 : Int) : Bool :=
  (if (mright_m (ix s.puts s38)) = true then mhas_m s.gone ((ix s.puts s38).tag) else true)
def mcheck_L1 (s : MapM) : Nat → Int → (Int) ⊕ (Int)
  | 0, s38 => .inr (s38)
  | fuel + 1, s38 =>
    if s38 < (s.puts.length : Int) then
      if (mcheck_c4 s s38) = true then
        .inl 3
      else
        mcheck_L1 s fuel (s38 + 1)
    else
      .inr (s38)
def mcheck_m (s : MapM) : Int :=
  if (mcheck_c1 s) = true then
    8
  else
    if (mcheck_c2 s) = true then
      2
    else
      if (mcheck_c3 s) = true then
        3
      else
        match mcheck_L1 s (((s.puts.length : Int) - (0 : Int)).toNat + 1) (0 : Int) with
        | .inl r => r
        | .inr (s38) =>
          0
theorem mcheck_c1_iff (s : MapM) : (mcheck_c1 s = true) ↔ ((4096 < (s.puts.length : Int)) ∨ (4096 < (s.gone.length : Int))) := by
  unfold mcheck_c1; exact (ci1 decide_eq_true_iff)
theorem mcheck_c2_iff (s : MapM) : (mcheck_c2 s = true) ↔ (((containsF_m (mtags_m s.puts) mnotTag_m) = true) ∨ ((containsF_m s.gone mnotTag_m) = true)) := by
  unfold mcheck_c2; exact (ci1 Iff.rfl)
theorem mcheck_c3_iff (s : MapM) : (mcheck_c3 s = true) ↔ (¬ ((mrise_m (mtags_m s.puts)) = true) ∨ (¬ ((mrise_m s.gone) = true))) := by
  unfold mcheck_c3; exact (ci4 (by simp))
theorem mcheck_c4_iff (s : MapM) (s38 : Int) : (mcheck_c4 s s38 = true) ↔ (¬ ((mright_m (ix s.puts s38)) = true) ∨ ((mhas_m s.gone ((ix s.puts s38).tag)) = true)) := by
  unfold mcheck_c4; exact (ci4 Iff.rfl)
theorem mcheck_ok (X : List Nat) (w : World) (hX : Lo X w) (s : MapM) (A2 : Option Addr) (C2 : Nat) (A1 : Option Addr) (C1 : Nat) (z4 : Sld X w A2 s.puts.length C2 7 (s.puts.flatMap putMC)) (z3 : Sld X w A1 s.gone.length C1 3 (s.gone.flatMap tagMC)) (h1 : s.puts.length ≤ 1000000) (h2 : s.gone.length ≤ 1000000) :
    Fn Tryz.prog 91 [.agg #[.slice A2 s.puts.length C2, .slice A1 s.gone.length C1]] w fun v w' => v = .int .i64 (mcheck_m s) ∧ Fr [] w w' := by
  refine Fn_of 53 Ty.en_91 Tryz.func91 rfl rfl rfl ?_
  dsimp only [argEnv]
  have st := stn2 hX z4 z3
  have hF := Fr.refl ([]) w
  have z2 := (st.q 0 rfl).le
  have z1 := (st.q 1 rfl).le
  refine sq fun _ k1 => rg (La rfl (Sbx st hF rfl fun g1 w1 (st : St _ _ [_] _) hF hg1 => Ls' rfl (Ln k1 (sq fun _ k2 => sq fun _ k3 => ?_))))
  refine use_out k3 (fun E W => E = [(1, .pointer (some ⟨g1, 0, none⟩)), (15, .bool (mcheck_c1 s))] ∧ St X W (hOf st) (kOf st) ∧ Fr ([]) w W) ?_ fun hout1 => ?_
  · rintro E w2 ⟨rfl, st, hF⟩
    have st : St X w2 [_] [_, _] := st
    refine cB rfl (fun hc1 => ?_) (fun hc1 => ?_)
    · have jhc1 := (mcheck_c1_iff s).1 hc1
      refine sq fun _ k4 => rg (Ls' rfl (Ln k4 (wR (Th_r (fR (Res1 rfl rfl) ?_)))))
      unfold mcheck_m; rewrite [iP hc1]
      exact ⟨rfl, hF⟩
    have jhc1 := mt (mcheck_c1_iff s).2 hc1
    refine sk k2 (sq fun _ k5 => rg (Ly rfl (yf rfl Ty.fo_55_0) (Ly rfl (yl 0 Ty.pl_53 st rfl) (La rfl (a_call rfl rfl rfl rfl (mtags_ok (keys (hOf st) ++ X) _ st.Lo s.puts A2 C2 (st.q 0 rfl) h1) (fun v w3 ⟨Ar1, cr1, hv, hr1, hf⟩ => ?_))))))
    subst hv
    have st := st.keep0 hf
    have hF := hF.step0 hf
    have z5 := Sld.le hr1
    have st := st.addK (kS Ar1 (mtags_m s.puts).length cr1 3 ((mtags_m s.puts).flatMap tagMC)) hr1
    have st : St X w3 [_] [_, _, _] := st
    refine Ls' rfl (Ln k5 (sq fun _ k6 => sq fun _ k7 => ?_))
    refine use_out k7 (fun E W => E = [(1, .pointer (some ⟨g1, 0, none⟩)), (3, .slice Ar1 ((mtags_m s.puts).length) cr1), (25, .bool (mcheck_c2 s))] ∧ St X W (hOf st) (kOf st) ∧ Fr ([]) w W) ?_ fun hout2 => ?_
    · rintro E w4 ⟨rfl, st, hF⟩
      have st : St X w4 [_] [_, _, _] := st
      refine cB rfl (fun hc2 => ?_) (fun hc2 => ?_)
      · have jhc2 := (mcheck_c2_iff s).1 hc2
        refine sq fun _ k8 => rg (Ls' rfl (Ln k8 (wR (Th_r (fR (Res1 rfl rfl) ?_)))))
        unfold mcheck_m; rewrite [iN hc1, iP hc2]
        exact ⟨rfl, hF⟩
      have jhc2 := mt (mcheck_c2_iff s).2 hc2
      refine sk k6 (sq fun _ k9 => sq fun _ k10 => ?_)
      refine use_out k10 (fun E W => E = [(1, .pointer (some ⟨g1, 0, none⟩)), (34, .bool (mcheck_c3 s))] ∧ St X W (hOf st) (kOf st) ∧ Fr ([]) w W) ?_ fun hout3 => ?_
      · rintro E w5 ⟨rfl, st, hF⟩
        have st : St X w5 [_] [_, _, _] := st
        refine cB rfl (fun hc3 => ?_) (fun hc3 => ?_)
        · have jhc3 := (mcheck_c3_iff s).1 hc3
          refine sq fun _ k11 => rg (Ls' rfl (Ln k11 (wR (Th_r (fR (Res1 rfl rfl) ?_)))))
          unfold mcheck_m; rewrite [iN hc1, iN hc2, iP hc3]
          exact ⟨rfl, hF⟩
        have jhc3 := mt (mcheck_c3_iff s).2 hc3
        refine sk k9 (sq fun _ k12 => sq fun _ k13 => rg (Ly rfl (yf rfl Ty.fo_55_0) (Ly rfl (yl 0 Ty.pl_53 st rfl) (Ly rfl (yll rfl Tryz.underlying53) (Lm rfl (Ln k13 (Wp_block (lp (fun q E W => ∃ (s38 : Int), E = [(1, .pointer (some ⟨g1, 0, none⟩)), (36, .slice A2 s.puts.length C2), (37, .int .i64 (s.puts.length : Int)), (38, .int .i64 s38)] ∧ jq q (fun m => (mcheck_L1 s m s38 = mcheck_L1 s (((s.puts.length : Int) - (0 : Int)).toNat + 1) (0 : Int) ∧ ((s.puts.length : Int) - s38).toNat < m)) (mcheck_L1 s (((s.puts.length : Int) - (0 : Int)).toNat + 1) (0 : Int) = .inr (s38)) ∧ (0 ≤ s38) ∧ St X W [(some g1, Cl [.slice A2 s.puts.length C2, .slice A1 s.gone.length C1] 55)] [kS A2 s.puts.length C2 7 (s.puts.flatMap putMC), kS A1 s.gone.length C1 3 (s.gone.flatMap tagMC), kS Ar1 (mtags_m s.puts).length cr1 3 ((mtags_m s.puts).flatMap tagMC)] ∧ Fr ([]) w W) (((s.puts.length : Int) - (0 : Int)).toNat + 1) [(1, _), (36, _), (37, _), (38, _)] ⟨rfl, rfl, rfl, rfl, trivial⟩ ⟨_, rfl, ⟨rfl, Nat.lt_succ_self _⟩, by first | omega | (simp; done) | (simp; omega), st, hF⟩ k12 ?_ fun hout4 => ?_))))))))
        · rintro E w6 ⟨s38, rfl, hLk1, hinv, st, hF⟩
          unfold jq at hLk1; dsimp only at hLk1
          refine sq fun _ k14 => rg (Ls' rfl (Ln k14 (wR (fR (Res1 rfl rfl) ?_))))
          unfold mcheck_m; rewrite [iN hc1, iN hc2, iN hc3, hLk1]; (try dsimp only)
          exact ⟨rfl, hF⟩
        rintro m E w7 ⟨s38, rfl, ⟨hL1, hmu⟩, hinv, st, hF⟩
        obtain ⟨fuel, rfl⟩ : ∃ q, m = q + 1 := ⟨m - 1, by omega⟩
        refine sq fun _ k15 => rg (Ly rfl (ylt rfl) (Ln k15 (sq fun _ k16 => cD rfl (fun hc4 => ?_) (fun hc4 => ?_))))
        · refine sk k16 (sq fun _ k17 => Wp_block (sq fun _ k18 => rg ?_))
          obtain ⟨gi1, bi1, egi1⟩ := (st.k (i := 0) rfl).addr (fun _ => rfl) (by decide) (q := s38) (by first | omega | (simp; done) | (simp; omega)) (by first | omega | (simp; done) | (simp; omega))
          subst egi1
          refine Ly rfl (y_ixa (q := s38) rfl rfl rfl Ty.es_53 (by first | omega | (simp; done) | (simp; omega)) (by first | omega | (simp; done) | (simp; omega))) ?_
          refine Ly rfl (y_ldk (q := s38) rfl rfl Ty.ag_131 (fun _ e => e ▸ st.k (i := 0) rfl) (fun _ => rfl) (by first | omega | (simp; done) | (simp; omega)) (by first | omega | (simp; done) | (simp; omega))) ?_
          refine La rfl (Sal Ty.zc_131 st hF rfl fun g2 w8 (st : St _ _ [_, _] _) hF hg2 => La rfl (Ssw 1 Ty.sz_131 st hF (.inr hg2) rfl fun w9 (st : St _ _ [_, _] _) hF => Ln k18 (sq fun _ k19 => ?_)))
          refine use_out k19 (fun E W => E = [(1, .pointer (some ⟨g1, 0, none⟩)), (36, .slice (some ⟨gi1, bi1, none⟩) s.puts.length C2), (37, .int .i64 (s.puts.length : Int)), (38, .int .i64 s38), (51, .bool (mcheck_c4 s s38))] ∧ St X W (hOf st) (kOf st) ∧ Fr ([]) w W) ?_ fun hout5 => ?_
          · rintro E w10 ⟨rfl, st, hF⟩
            have st : St X w10 [_, _] [_, _, _] := st
            refine cB rfl (fun hc5 => ?_) (fun hc5 => ?_)
            · have jhc5 := (mcheck_c4_iff s s38).1 hc5
              refine sq fun _ k20 => rg (Ls' rfl (Ln k20 (wR (Ib_r (Th_r (Th_r (Ib_r (Th_r (fR (Res1 rfl rfl) ?_)))))))))
              have hret1 : mcheck_L1 s (((s.puts.length : Int) - (0 : Int)).toNat + 1) (0 : Int) = .inl 3 := by rewrite [← hL1, mcheck_L1]; rewrite [iP hc4, iP hc5]; rfl
              have he5 : mcheck_m s = 3 := by unfold mcheck_m; rewrite [iN hc1, iN hc2, iN hc3, hret1]; (try dsimp only); all_goals rfl
              rewrite [he5]
              exact ⟨rfl, hF⟩
            have jhc5 := mt (mcheck_c4_iff s s38).2 hc5
            refine Wp_skip (Ib_n (Th_n (k17 _ _ (rg (Ly rfl (y_add (c := s38 + 1) rfl rfl rfl (wf_i64 (by first | omega | (simp; done) | (simp; omega)))) ?_)))))
            refine Lm rfl (Ls_nil (Th_n (?_)))
            exact ⟨fuel, [(1, _), (36, _), (37, _), (38, _)], Nat.lt_succ_self _, ⟨rfl, rfl, rfl, rfl, trivial⟩, (s38 + 1), rfl, ⟨by rewrite [← hL1, mcheck_L1]; rewrite [iP hc4, iN hc5]; rfl, by first | omega | (simp; done) | (simp; omega)⟩, by first | omega | (simp; done) | (simp; omega), (st.pk [0] (by decide)).pickK [0, 1, 2], hF⟩
          refine rg (Ly rfl (yw 1 Ty.ag_131 st rfl) (La rfl (Scl st hF rfl (mright_ok _ (ix s.puts s38)) fun w11 st hF => Ly rfl (yn rfl) (Lm rfl (bBn (s := 45) rfl (fun hc6 => ?_) (fun hc6 => ?_))))))
          · refine LsF rfl (LsF rfl (LsF rfl (LsF rfl (LsF rfl (Ly rfl (yT rfl) (Ls_nil (Th_n (?_))))))))
            exact hout5 _ [(1, _), (36, _), (37, _), (38, _), (51, _)] _ ⟨rfl, rfl, rfl, rfl, rfl, trivial⟩ ⟨by unfold mcheck_c4; rewrite [iN hc6]; rfl, (st.pk [0, 1] (by decide)).pickK [0, 1, 2], hF⟩
          refine LyT rfl (yf rfl Ty.fo_55_1) (LyT rfl (yl 0 Ty.pl_30 st rfl) (LyT rfl (yf rfl Ty.fo_131_0) (LyT rfl (ym 1 Ty.ag_43 st rfl) (LaT rfl (Scl st hF rfl (mhas_ok (keys (hOf st) ++ X) _ st.Lo s.gone A1 C1 ((ix s.puts s38).tag) (st.q 1 rfl) h2) fun w12 st hF => Ly rfl (yF rfl) (Ls_nil (Th_n (?_))))))))
          exact hout5 _ [(1, _), (36, _), (37, _), (38, _), (51, _)] _ ⟨rfl, rfl, rfl, rfl, rfl, trivial⟩ ⟨by unfold mcheck_c4; rewrite [iP hc6]; rfl, (st.pk [0, 1] (by decide)).pickK [0, 1, 2], hF⟩
        refine Wp_exit (Th_e (Th_e (Ib_hit (Th_n (?_)))))
        exact hout4 _ [(1, _), (36, _), (37, _), (38, _)] _ ⟨rfl, rfl, rfl, rfl, trivial⟩ ⟨s38, rfl, show _ = _ from by rewrite [← hL1, mcheck_L1]; rewrite [iN hc4]; rfl, by first | omega | (simp; done) | (simp; omega), (st.pk [0] (by decide)).pickK [0, 1, 2], hF⟩
      refine rg (Lm rfl (La rfl (Scl st hF rfl (mrise_ok (keys (hOf st) ++ X) _ st.Lo (mtags_m s.puts) Ar1 cr1 (st.q 2 rfl)) fun w13 st hF => Ly rfl (yn rfl) (Lm rfl (bBn (s := 29) rfl (fun hc7 => ?_) (fun hc7 => ?_))))))
      · refine LsF rfl (LsF rfl (LsF rfl (LsF rfl (Ly rfl (yT rfl) (Ls_nil (Th_n (?_)))))))
        exact hout3 _ [(1, _), (34, _)] _ ⟨rfl, rfl, trivial⟩ ⟨by unfold mcheck_c3; rewrite [iN hc7]; rfl, (st.pk [0] (by decide)).pickK [0, 1, 2], hF⟩
      refine LyT rfl (yf rfl Ty.fo_55_1) (LyT rfl (yl 0 Ty.pl_30 st rfl) (LaT rfl (Scl st hF rfl (mrise_ok (keys (hOf st) ++ X) _ st.Lo s.gone A1 C1 (st.q 1 rfl)) fun w14 st hF => LyT rfl (yn rfl) (Ly rfl (yF rfl) (Ls_nil (Th_n (?_)))))))
      exact hout3 _ [(1, _), (34, _)] _ ⟨rfl, rfl, trivial⟩ ⟨by unfold mcheck_c3; rewrite [iP hc7]; rfl, (st.pk [0] (by decide)).pickK [0, 1, 2], hF⟩
    refine rg (Lm rfl (La rfl (Scl st hF rfl (containsTag_ok (keys (hOf st) ++ X) _ st.Lo (mtags_m s.puts) Ar1 cr1 (.func (.func 92) #[] #[]) mnotTag_m (st.q 2 rfl) (fun w1 x0 _ => FnV.of (mnotTag_ok w1 x0))) fun w15 st hF => Lm rfl (bB (s := 21) rfl (fun hc8 => ?_) (fun hc8 => ?_)))))
    · refine LsF rfl (LsF rfl (LsF rfl (Ly rfl (yT rfl) (Ls_nil (Th_n (?_))))))
      exact hout2 _ [(1, _), (3, _), (25, _)] _ ⟨rfl, rfl, rfl, trivial⟩ ⟨by unfold mcheck_c2; rewrite [iP hc8]; rfl, (st.pk [0] (by decide)).pickK [0, 1, 2], hF⟩
    refine LyT rfl (yf rfl Ty.fo_55_1) (LyT rfl (yl 0 Ty.pl_30 st rfl) (LaT rfl (Scl st hF rfl (containsTag_ok (keys (hOf st) ++ X) _ st.Lo s.gone A1 C1 (.func (.func 92) #[] #[]) mnotTag_m (st.q 1 rfl) (fun w1 x0 _ => FnV.of (mnotTag_ok w1 x0))) fun w16 st hF => Ly rfl (yF rfl) (Ls_nil (Th_n (?_))))))
    exact hout2 _ [(1, _), (3, _), (25, _)] _ ⟨rfl, rfl, rfl, trivial⟩ ⟨by unfold mcheck_c2; rewrite [iN hc8]; rfl, (st.pk [0] (by decide)).pickK [0, 1, 2], hF⟩
  refine rg (Ly rfl (yf rfl Ty.fo_55_0) (Ly rfl (yl 0 Ty.pl_53 st rfl) (Ly rfl (yll rfl Tryz.underlying53) (Ly rfl (ygt rfl) (Lm rfl (bD (s := 10) rfl (fun hc9 => ?_) (fun hc9 => ?_)))))))
  · refine LsF rfl (LsF rfl (LsF rfl (LsF rfl (Ly rfl (yT rfl) (Ls_nil (Th_n (?_)))))))
    exact hout1 _ [(1, _), (15, _)] _ ⟨rfl, rfl, trivial⟩ ⟨by unfold mcheck_c1; rewrite [iP hc9]; rfl, (st.pk [0] (by decide)).pickK [0, 1], hF⟩
  refine LyT rfl (yf rfl Ty.fo_55_1) (LyT rfl (yl 0 Ty.pl_30 st rfl) (LyT rfl (yll rfl Tryz.underlying30) (LyT rfl (ygt rfl) (Ly rfl (yF rfl) (Ls_nil (Th_n (?_)))))))
  exact hout1 _ [(1, _), (15, _)] _ ⟨rfl, rfl, trivial⟩ ⟨by unfold mcheck_c1; rewrite [iN hc9]; rfl, (st.pk [0] (by decide)).pickK [0, 1], hF⟩
def okind_m (act : Int) : Int :=
  if act = 1 then
    1
  else
    if act = 2 then
      2
    else
      if act = 3 then
        3
      else
        if act = 4 then
          3
        else
          if act = 5 then
            4
          else
            if act = 6 then
              4
            else
              0
theorem okind_ok (w : World) (act : Int) :
    Fn Tryz.prog 26 [.int .i64 act] w fun v w' => v = .int .i64 (okind_m act) ∧ Fr [] w w' := by
  refine Fn_of 14 Ty.en_26 Tryz.func26 rfl rfl rfl ?_
  dsimp only [argEnv]
  have st := stn0 (X := []) (w := w) (by simp [Lo])
  have hF := Fr.refl ([]) w
  refine sq fun _ k1 => rg (Ls' rfl (Ln k1 (sq fun _ k2 => sq fun _ k3 => rg (Lm rfl (Ln k3 (Wp_block (sq fun _ k4 => rg (Ly rfl (yeq rfl) (Ls' rfl (Ln k4 (cE rfl (fun hc1 => ?_) (fun hc1 => ?_))))))))))))
  · refine sq fun _ k5 => rg (Ls' rfl (Ln k5 (wR (Ib_r (Th_r (fR (Res1 rfl rfl) ?_))))))
    unfold okind_m; rewrite [iP hc1]
    exact ⟨rfl, hF⟩
  refine sq fun _ k6 => rg (Ly rfl (yeq rfl) (Ls' rfl (Ln k6 (cE rfl (fun hc2 => ?_) (fun hc2 => ?_)))))
  · refine sq fun _ k7 => rg (Ls' rfl (Ln k7 (wR (Ib_r (Th_r (fR (Res1 rfl rfl) ?_))))))
    unfold okind_m; rewrite [iN hc1, iP hc2]
    exact ⟨rfl, hF⟩
  refine sq fun _ k8 => sq fun _ k9 => rg (Ly rfl (yeq rfl) (Ls' rfl (Ln k9 (cE rfl (fun hc3 => ?_) (fun hc3 => ?_)))))
  · refine sk k8 (Wp_cond rfl (fun _ => ?_) (fun hc4 => absurd hc4 (by simp [hc3])))
    refine sq fun _ k10 => rg (Ls' rfl (Ln k10 (wR (Ib_r (Th_r (fR (Res1 rfl rfl) ?_))))))
    unfold okind_m; rewrite [iN hc1, iN hc2, iP hc3]
    exact ⟨rfl, hF⟩
  refine rg (Ly rfl (yeq rfl) (Ls' rfl (Ln k8 (cE rfl (fun hc5 => ?_) (fun hc5 => ?_)))))
  · refine sq fun _ k11 => rg (Ls' rfl (Ln k11 (wR (Ib_r (Th_r (fR (Res1 rfl rfl) ?_))))))
    unfold okind_m; rewrite [iN hc1, iN hc2, iN hc3, iP hc5]
    exact ⟨rfl, hF⟩
  refine sq fun _ k12 => sq fun _ k13 => rg (Ly rfl (yeq rfl) (Ls' rfl (Ln k13 (cE rfl (fun hc6 => ?_) (fun hc6 => ?_)))))
  · refine sk k12 (Wp_cond rfl (fun _ => ?_) (fun hc7 => absurd hc7 (by simp [hc6])))
    refine sq fun _ k14 => rg (Ls' rfl (Ln k14 (wR (Ib_r (Th_r (fR (Res1 rfl rfl) ?_))))))
    unfold okind_m; rewrite [iN hc1, iN hc2, iN hc3, iN hc5, iP hc6]
    exact ⟨rfl, hF⟩
  refine rg (Ly rfl (yeq rfl) (Ls' rfl (Ln k12 (cE rfl (fun hc8 => ?_) (fun hc8 => ?_)))))
  · refine sq fun _ k15 => rg (Ls' rfl (Ln k15 (wR (Ib_r (Th_r (fR (Res1 rfl rfl) ?_))))))
    unfold okind_m; rewrite [iN hc1, iN hc2, iN hc3, iN hc5, iN hc6, iP hc8]
    exact ⟨rfl, hF⟩
  refine Wp_skip (Ib_n (Th_n (k2 _ _ (sq fun _ k16 => rg (Ls' rfl (Ln k16 (wR (fR (Res1 rfl rfl) ?_))))))))
  unfold okind_m; rewrite [iN hc1, iN hc2, iN hc3, iN hc5, iN hc6, iN hc8]
  exact ⟨rfl, hF⟩
structure AsksM where
  name : Bool
  val : Bool
  atF : Bool
  tags : Bool
instance : Inhabited AsksM := ⟨⟨default, default, default, default⟩⟩
instance : DecidableEq AsksM := fun a b => decidable_of_iff (a.name = b.name ∧ a.val = b.val ∧ a.atF = b.atF ∧ a.tags = b.tags) (by cases a; cases b; simp)
def asksMC (x : AsksM) : List Value := [.bool x.name, .bool x.val, .bool x.atF, .bool x.tags]
def oform_m (act : Int) : AsksM :=
  if act = 5 then
    (⟨true, true, true, false⟩ : AsksM)
  else
    if act = 1 then
      (⟨false, true, true, false⟩ : AsksM)
    else
      if act = 2 then
        (⟨false, true, false, false⟩ : AsksM)
      else
        if act = 4 then
          (⟨true, false, false, true⟩ : AsksM)
        else
          if act = 6 then
            (⟨true, false, false, true⟩ : AsksM)
          else
            if act = 3 then
              (⟨true, false, false, false⟩ : AsksM)
            else
              (⟨false, false, false, false⟩ : AsksM)
theorem oform_ok (w : World) (act : Int) :
    Fn Tryz.prog 36 [.int .i64 act] w fun v w' => v = .agg (asksMC (oform_m act)).toArray ∧ Fr [] w w' := by
  refine Fn_of 22 Ty.en_36 Tryz.func36 rfl rfl rfl ?_
  dsimp only [argEnv]
  have st := stn0 (X := []) (w := w) (by simp [Lo])
  have hF := Fr.refl ([]) w
  refine sq fun _ k1 => rg (La rfl (Sal Ty.zc_104 st hF rfl fun g1 w1 (st : St _ _ [_] _) hF hg1 => Ln k1 (sq fun _ k2 => rg (La rfl (Sal Ty.zc_104 st hF rfl fun g2 w2 (st : St _ _ [_, _] _) hF hg2 => Ln k2 (sq fun _ k3 => sq fun _ k4 => rg (Lm rfl (Ln k4 (Wp_block (sq fun _ k5 => Wp_block (sq fun _ k6 => Wp_block (sq fun _ k7 => Wp_block (sq fun _ k8 => Wp_block (sq fun _ k9 => Wp_block (sq fun _ k10 => sq fun _ k11 => sq fun _ k12 => rg (Ly rfl (yeq rfl) (Ls' rfl (Ln k12 (cE rfl (fun hc1 => ?_) (fun hc1 => ?_))))))))))))))))))))
  · refine Wp_exit (Th_e (Th_e (Ib_hit (Th_n (k9 _ _ (rg (Ly rfl (yf rfl Ty.fo_104_0) (La rfl (Ss1 1 Ty.sz_4 st hF (.inr hg2) rfl fun w3 (st : St _ _ [_, (_, Cl [_, _, _, _] _)] _) hF => Ls_nil (Ib_n (Th_n (k8 _ _ (rg (Ly rfl (yf rfl Ty.fo_104_2) (La rfl (Ss1 1 Ty.sz_4 st hF (.inr hg2) rfl fun w4 (st : St _ _ [_, (_, Cl [_, _, _, _] _)] _) hF => Ls_nil (Ib_n (Th_n (k7 _ _ (sq fun _ k13 => rg (Ly rfl (yf rfl Ty.fo_104_1) (La rfl (Ss1 1 Ty.sz_4 st hF (.inr hg2) rfl fun w5 (st : St _ _ [_, (_, Cl [_, _, _, _] _)] _) hF => Ln k13 (Wp_exit (Ib_miss rfl (Th_e (Ib_miss rfl (Th_e (Ib_hit (Th_n (k3 _ _ (sq fun _ k14 => rg (Ly rfl (yw 1 Ty.ag_104 st rfl) (La rfl (Ssw 0 Ty.sz_104 st hF (.inr hg1) rfl fun w6 (st : St _ _ [_, _] _) hF => Ln k14 (wR (fR (ResN1 rfl (rvc (i := 0) rfl Ty.ag_104 st.hp rfl rfl)) ?_)))))))))))))))))))))))))))))))))))))
    unfold oform_m; rewrite [iP hc1]
    exact ⟨rfl, hF⟩
  refine sk k11 (sq fun _ k15 => sq fun _ k16 => rg (Ly rfl (yeq rfl) (Ls' rfl (Ln k16 (cE rfl (fun hc2 => ?_) (fun hc2 => ?_))))))
  · refine Wp_exit (Th_e (Th_e (Ib_miss rfl (Th_e (Ib_hit (Th_n (k8 _ _ (rg (Ly rfl (yf rfl Ty.fo_104_2) (La rfl (Ss1 1 Ty.sz_4 st hF (.inr hg2) rfl fun w7 (st : St _ _ [_, (_, Cl [_, _, _, _] _)] _) hF => Ls_nil (Ib_n (Th_n (k7 _ _ (sq fun _ k17 => rg (Ly rfl (yf rfl Ty.fo_104_1) (La rfl (Ss1 1 Ty.sz_4 st hF (.inr hg2) rfl fun w8 (st : St _ _ [_, (_, Cl [_, _, _, _] _)] _) hF => Ln k17 (Wp_exit (Ib_miss rfl (Th_e (Ib_miss rfl (Th_e (Ib_hit (Th_n (k3 _ _ (sq fun _ k18 => rg (Ly rfl (yw 1 Ty.ag_104 st rfl) (La rfl (Ssw 0 Ty.sz_104 st hF (.inr hg1) rfl fun w9 (st : St _ _ [_, _] _) hF => Ln k18 (wR (fR (ResN1 rfl (rvc (i := 0) rfl Ty.ag_104 st.hp rfl rfl)) ?_))))))))))))))))))))))))))))))))
    unfold oform_m; rewrite [iN hc1, iP hc2]
    exact ⟨rfl, hF⟩
  refine sk k15 (sq fun _ k19 => sq fun _ k20 => rg (Ly rfl (yeq rfl) (Ls' rfl (Ln k20 (cE rfl (fun hc3 => ?_) (fun hc3 => ?_))))))
  · refine Wp_exit (Th_e (Th_e (Ib_miss rfl (Th_e (Ib_miss rfl (Th_e (Ib_hit (Th_n (k7 _ _ (sq fun _ k21 => rg (Ly rfl (yf rfl Ty.fo_104_1) (La rfl (Ss1 1 Ty.sz_4 st hF (.inr hg2) rfl fun w10 (st : St _ _ [_, (_, Cl [_, _, _, _] _)] _) hF => Ln k21 (Wp_exit (Ib_miss rfl (Th_e (Ib_miss rfl (Th_e (Ib_hit (Th_n (k3 _ _ (sq fun _ k22 => rg (Ly rfl (yw 1 Ty.ag_104 st rfl) (La rfl (Ssw 0 Ty.sz_104 st hF (.inr hg1) rfl fun w11 (st : St _ _ [_, _] _) hF => Ln k22 (wR (fR (ResN1 rfl (rvc (i := 0) rfl Ty.ag_104 st.hp rfl rfl)) ?_)))))))))))))))))))))))))))
    unfold oform_m; rewrite [iN hc1, iN hc2, iP hc3]
    exact ⟨rfl, hF⟩
  refine sk k19 (sq fun _ k23 => sq fun _ k24 => sq fun _ k25 => rg (Ly rfl (yeq rfl) (Ls' rfl (Ln k25 (cE rfl (fun hc4 => ?_) (fun hc4 => ?_))))))
  · refine sk k24 (Wp_cond rfl (fun _ => ?_) (fun hc5 => absurd hc5 (by simp [hc4])))
    refine Wp_exit (Th_e (Th_e (Ib_miss rfl (Th_e (Ib_miss rfl (Th_e (Ib_miss rfl (Th_e (Ib_hit (Th_n (k6 _ _ (rg (Ly rfl (yf rfl Ty.fo_104_3) (La rfl (Ss1 1 Ty.sz_4 st hF (.inr hg2) rfl fun w12 (st : St _ _ [_, (_, Cl [_, _, _, _] _)] _) hF => Ls_nil (Ib_n (Th_n (k5 _ _ (sq fun _ k26 => rg (Ly rfl (yf rfl Ty.fo_104_0) (La rfl (Ss1 1 Ty.sz_4 st hF (.inr hg2) rfl fun w13 (st : St _ _ [_, (_, Cl [_, _, _, _] _)] _) hF => Ln k26 (Wp_exit (Ib_hit (Th_n (k3 _ _ (sq fun _ k27 => rg (Ly rfl (yw 1 Ty.ag_104 st rfl) (La rfl (Ssw 0 Ty.sz_104 st hF (.inr hg1) rfl fun w14 (st : St _ _ [_, _] _) hF => Ln k27 (wR (fR (ResN1 rfl (rvc (i := 0) rfl Ty.ag_104 st.hp rfl rfl)) ?_))))))))))))))))))))))))))))))))
    unfold oform_m; rewrite [iN hc1, iN hc2, iN hc3, iP hc4]
    exact ⟨rfl, hF⟩
  refine rg (Ly rfl (yeq rfl) (Ls' rfl (Ln k24 (cE rfl (fun hc6 => ?_) (fun hc6 => ?_)))))
  · refine Wp_exit (Th_e (Th_e (Ib_miss rfl (Th_e (Ib_miss rfl (Th_e (Ib_miss rfl (Th_e (Ib_hit (Th_n (k6 _ _ (rg (Ly rfl (yf rfl Ty.fo_104_3) (La rfl (Ss1 1 Ty.sz_4 st hF (.inr hg2) rfl fun w15 (st : St _ _ [_, (_, Cl [_, _, _, _] _)] _) hF => Ls_nil (Ib_n (Th_n (k5 _ _ (sq fun _ k28 => rg (Ly rfl (yf rfl Ty.fo_104_0) (La rfl (Ss1 1 Ty.sz_4 st hF (.inr hg2) rfl fun w16 (st : St _ _ [_, (_, Cl [_, _, _, _] _)] _) hF => Ln k28 (Wp_exit (Ib_hit (Th_n (k3 _ _ (sq fun _ k29 => rg (Ly rfl (yw 1 Ty.ag_104 st rfl) (La rfl (Ssw 0 Ty.sz_104 st hF (.inr hg1) rfl fun w17 (st : St _ _ [_, _] _) hF => Ln k29 (wR (fR (ResN1 rfl (rvc (i := 0) rfl Ty.ag_104 st.hp rfl rfl)) ?_))))))))))))))))))))))))))))))))
    unfold oform_m; rewrite [iN hc1, iN hc2, iN hc3, iN hc4, iP hc6]
    exact ⟨rfl, hF⟩
  refine sk k23 (sq fun _ k30 => rg (Ly rfl (yeq rfl) (Ls' rfl (Ln k30 (cE rfl (fun hc7 => ?_) (fun hc7 => ?_))))))
  · refine Wp_exit (Th_e (Ib_miss rfl (Th_e (Ib_miss rfl (Th_e (Ib_miss rfl (Th_e (Ib_miss rfl (Th_e (Ib_hit (Th_n (k5 _ _ (sq fun _ k31 => rg (Ly rfl (yf rfl Ty.fo_104_0) (La rfl (Ss1 1 Ty.sz_4 st hF (.inr hg2) rfl fun w18 (st : St _ _ [_, (_, Cl [_, _, _, _] _)] _) hF => Ln k31 (Wp_exit (Ib_hit (Th_n (k3 _ _ (sq fun _ k32 => rg (Ly rfl (yw 1 Ty.ag_104 st rfl) (La rfl (Ssw 0 Ty.sz_104 st hF (.inr hg1) rfl fun w19 (st : St _ _ [_, _] _) hF => Ln k32 (wR (fR (ResN1 rfl (rvc (i := 0) rfl Ty.ag_104 st.hp rfl rfl)) ?_))))))))))))))))))))))))))
    unfold oform_m; rewrite [iN hc1, iN hc2, iN hc3, iN hc4, iN hc6, iP hc7]
    exact ⟨rfl, hF⟩
  refine sk k10 (Wp_exit (Ib_miss rfl (Th_e (Ib_miss rfl (Th_e (Ib_miss rfl (Th_e (Ib_miss rfl (Th_e (Ib_miss rfl (Th_e (Ib_hit (Th_n (k3 _ _ (sq fun _ k33 => rg (Ly rfl (yw 1 Ty.ag_104 st rfl) (La rfl (Ssw 0 Ty.sz_104 st hF (.inr hg1) rfl fun w20 (st : St _ _ [_, _] _) hF => Ln k33 (wR (fR (ResN1 rfl (rvc (i := 0) rfl Ty.ag_104 st.hp rfl rfl)) ?_))))))))))))))))))))
  unfold oform_m; rewrite [iN hc1, iN hc2, iN hc3, iN hc4, iN hc6, iN hc7]
  exact ⟨rfl, hF⟩
def otimed_m (s : StampM) : Bool :=
  if (lcheck_m s) = 0 then
    decide (0 < s.time)
  else
    false
theorem otimed_ok (w : World) (s : StampM) :
    Fn Tryz.prog 28 [.agg (stampMC s).toArray] w fun v w' => v = .bool (otimed_m s) ∧ Fr [] w w' := by
  refine Fn_of 11 Ty.en_28 Tryz.func28 rfl rfl rfl ?_
  dsimp only [argEnv]
  have st := stn0 (X := []) (w := w) (by simp [Lo])
  have hF := Fr.refl ([]) w
  refine sq fun _ k1 => rg (La rfl (Sbx st hF rfl fun g1 w1 (st : St _ _ [_] _) hF hg1 => Ls' rfl (Ln k1 (sq fun _ k2 => rg (Ly rfl (yw 0 Ty.ag_24 st rfl) (La rfl (Scl st hF rfl (lcheck_ok _ s) fun w2 st hF => Ly rfl (yeq rfl) (Lm rfl (bE (s := 6) rfl (fun hc1 => ?_) (fun hc1 => ?_))))))))))
  · refine LyT rfl (yf rfl Ty.fo_24_0) (LyT rfl (yl 0 Ty.pl_22 st rfl) (LyT rfl (ygt rfl) (Ly rfl (yT rfl) (Ls' rfl (Ln k2 (wR (fR (Res1 rfl rfl) ?_)))))))
    unfold otimed_m; rewrite [iP hc1]
    exact ⟨rfl, hF⟩
  refine LsF rfl (LsF rfl (LsF rfl (Ly rfl (yF rfl) (Ls' rfl (Ln k2 (wR (fR (Res1 rfl rfl) ?_)))))))
  unfold otimed_m; rewrite [iN hc1]
  exact ⟨rfl, hF⟩
def bnotTag_m (t : TagM) : Bool :=
  (icheckTag_m t) != 0
theorem bnotTag_ok (w : World) (t : TagM) :
    Fn Tryz.prog 27 [.agg (tagMC t).toArray] w fun v w' => v = .bool (bnotTag_m t) ∧ Fr [] w w' := by
  refine Fn_of 6 Ty.en_27 Tryz.func27 rfl rfl rfl ?_
  dsimp only [argEnv]
  have st := stn0 (X := []) (w := w) (by simp [Lo])
  have hF := Fr.refl ([]) w
  refine sq fun _ k1 => rg (La rfl (Sbx st hF rfl fun g1 w1 (st : St _ _ [_] _) hF hg1 => Ls' rfl (Ln k1 (sq fun _ k2 => rg (Ly rfl (yw 0 Ty.ag_43 st rfl) (La rfl (Scl st hF rfl (icheckTag_ok _ t) fun w2 st hF => Ly rfl (yne rfl) (Ls' rfl (Ln k2 (wR (fR (Res1 rfl rfl) ?_)))))))))))
  unfold bnotTag_m
  exact ⟨rfl, hF⟩
structure OpM where
  act : Int
  name : List UInt8
  val : Int
instance : Inhabited OpM := ⟨⟨default, default, default⟩⟩
instance : DecidableEq OpM := fun a b => decidable_of_iff (a.act = b.act ∧ a.name = b.name ∧ a.val = b.val) (by cases a; cases b; simp)
def opMC (x : OpM) : List Value := [.int .i64 x.act, sv x.name, .int .i64 x.val]
def ocheckOp_c1 (o : OpM) : Bool :=
  (if ((oform_m o.act).name) = true then !(oelem_m o.name) else false)
def ocheckOp_c2 (o : OpM) : Bool :=
  (if ((oform_m o.act).name) = true then false else o.name != [])
def ocheckOp_c3 (o : OpM) : Bool :=
  (if ((oform_m o.act).val) = true then false else o.val != 0)
def ocheckOp_c4 (o : OpM) : Bool :=
  (if o.act = 2 then (if o.val < (-1073741824) then true else decide (1073741824 < o.val)) else false)
def ocheckOp_m (o : OpM) : Int :=
  if (okind_m o.act) = 0 then
    5
  else
    if (ocheckOp_c1 o) = true then
      3
    else
      if (ocheckOp_c2 o) = true then
        3
      else
        if (ocheckOp_c3 o) = true then
          3
        else
          if (ocheckOp_c4 o) = true then
            2
          else
            0
theorem ocheckOp_c1_iff (o : OpM) : (ocheckOp_c1 o = true) ↔ ((((oform_m o.act).name) = true) ∧ (¬ ((oelem_m o.name) = true))) := by
  unfold ocheckOp_c1; exact (ci2 (by simp))
theorem ocheckOp_c2_iff (o : OpM) : (ocheckOp_c2 o = true) ↔ (¬ (((oform_m o.act).name) = true) ∧ (¬ (o.name = []))) := by
  unfold ocheckOp_c2; exact (ci3 (by simp))
theorem ocheckOp_c3_iff (o : OpM) : (ocheckOp_c3 o = true) ↔ (¬ (((oform_m o.act).val) = true) ∧ (¬ (o.val = 0))) := by
  unfold ocheckOp_c3; exact (ci3 (by simp))
theorem ocheckOp_c4_iff (o : OpM) : (ocheckOp_c4 o = true) ↔ ((o.act = 2) ∧ ((o.val < (-1073741824)) ∨ (1073741824 < o.val))) := by
  unfold ocheckOp_c4; exact (ci2 (ci1 decide_eq_true_iff))
theorem ocheckOp_ok (w : World) (o : OpM) :
    Fn Tryz.prog 25 [.agg (opMC o).toArray] w fun v w' => v = .int .i64 (ocheckOp_m o) ∧ Fr [] w w' := by
  refine Fn_of 50 Ty.en_25 Tryz.func25 rfl rfl rfl ?_
  dsimp only [argEnv]
  have st := stn0 (X := []) (w := w) (by simp [Lo])
  have hF := Fr.refl ([]) w
  refine sq fun _ k1 => rg (La rfl (Sbx st hF rfl fun g1 w1 (st : St _ _ [_] _) hF hg1 => Ls' rfl (Ln k1 (sq fun _ k2 => sq fun _ k3 => rg (Ly rfl (yf rfl Ty.fo_63_0) (Ly rfl (yl 0 Ty.pl_3 st rfl) (La rfl (Scl st hF rfl (okind_ok _ o.act) fun w2 st hF => Ly rfl (yeq rfl) (Ln k3 (cE rfl (fun hc1 => ?_) (fun hc1 => ?_)))))))))))
  · refine sq fun _ k4 => rg (Ls' rfl (Ln k4 (wR (Th_r (fR (Res1 rfl rfl) ?_)))))
    unfold ocheckOp_m; rewrite [iP hc1]
    exact ⟨rfl, hF⟩
  refine sk k2 (sq fun _ k5 => rg (Ly rfl (yf rfl Ty.fo_63_0) (Ly rfl (yl 0 Ty.pl_3 st rfl) (La rfl (Scl st hF rfl (oform_ok _ o.act) fun w3 st hF => La rfl (Sal Ty.zc_104 st hF rfl fun g2 w4 (st : St _ _ [_, _] _) hF hg2 => La rfl (Ssw 1 Ty.sz_104 st hF (.inr hg2) rfl fun w5 (st : St _ _ [_, _] _) hF => Ln k5 (sq fun _ k6 => Wp_block (sq fun _ k7 => sq fun _ k8 => ?_)))))))))
  refine use_out k8 (fun E W => E = [(1, .pointer (some ⟨g1, 0, none⟩)), (3, .pointer (some ⟨g2, 0, none⟩)), (11, .bool (ocheckOp_c1 o))] ∧ St [] W (hOf st) (kOf st) ∧ Fr ([]) w W) ?_ fun hout1 => ?_
  · rintro E w6 ⟨rfl, st, hF⟩
    have st : St [] w6 [_, _] [] := st
    refine cB rfl (fun hc2 => ?_) (fun hc2 => ?_)
    · have jhc2 := (ocheckOp_c1_iff o).1 hc2
      refine sk k7 (Wp_cond rfl (fun _ => ?_) (fun hc3 => absurd hc3 (by simp [hc2])))
      refine sq fun _ k9 => rg (Ls' rfl (Ln k9 (wR (Ib_r (Th_r (fR (Res1 rfl rfl) ?_))))))
      unfold ocheckOp_m; rewrite [iN hc1, iP hc2]
      exact ⟨rfl, hF⟩
    have jhc2 := mt (ocheckOp_c1_iff o).2 hc2
    refine sq fun _ k10 => ?_
    refine use_out k10 (fun E W => E = [(1, .pointer (some ⟨g1, 0, none⟩)), (3, .pointer (some ⟨g2, 0, none⟩)), (11, .bool (ocheckOp_c2 o))] ∧ St [] W (hOf st) (kOf st) ∧ Fr ([]) w W) ?_ fun hout2 => ?_
    · rintro E w7 ⟨rfl, st, hF⟩
      have st : St [] w7 [_, _] [] := st
      refine cB rfl (fun hc4 => ?_) (fun hc4 => ?_)
      · have jhc4 := (ocheckOp_c2_iff o).1 hc4
        refine sk k7 (Wp_cond rfl (fun _ => ?_) (fun hc5 => absurd hc5 (by simp [hc4])))
        refine sq fun _ k11 => rg (Ls' rfl (Ln k11 (wR (Ib_r (Th_r (fR (Res1 rfl rfl) ?_))))))
        unfold ocheckOp_m; rewrite [iN hc1, iN hc2, iP hc4]
        exact ⟨rfl, hF⟩
      have jhc4 := mt (ocheckOp_c2_iff o).2 hc4
      refine use_out k7 (fun E W => E = [(1, .pointer (some ⟨g1, 0, none⟩)), (11, .bool (ocheckOp_c3 o))] ∧ St [] W (hOf st) (kOf st) ∧ Fr ([]) w W) ?_ fun hout3 => ?_
      · rintro E w8 ⟨rfl, st, hF⟩
        have st : St [] w8 [_, _] [] := st
        refine cB rfl (fun hc6 => ?_) (fun hc6 => ?_)
        · have jhc6 := (ocheckOp_c3_iff o).1 hc6
          refine sq fun _ k12 => rg (Ls' rfl (Ln k12 (wR (Ib_r (Th_r (fR (Res1 rfl rfl) ?_))))))
          unfold ocheckOp_m; rewrite [iN hc1, iN hc2, iN hc4, iP hc6]
          exact ⟨rfl, hF⟩
        have jhc6 := mt (ocheckOp_c3_iff o).2 hc6
        refine sq fun _ k13 => ?_
        refine use_out k13 (fun E W => E = [(36, .bool (ocheckOp_c4 o))] ∧ St [] W (hOf st) (kOf st) ∧ Fr ([]) w W) ?_ fun hout4 => ?_
        · rintro E w9 ⟨rfl, st, hF⟩
          have st : St [] w9 [_, _] [] := st
          refine cB rfl (fun hc7 => ?_) (fun hc7 => ?_)
          · have jhc7 := (ocheckOp_c4_iff o).1 hc7
            refine sq fun _ k14 => rg (Ls' rfl (Ln k14 (wR (Ib_r (Th_r (fR (Res1 rfl rfl) ?_))))))
            unfold ocheckOp_m; rewrite [iN hc1, iN hc2, iN hc4, iN hc6, iP hc7]
            exact ⟨rfl, hF⟩
          have jhc7 := mt (ocheckOp_c4_iff o).2 hc7
          refine Wp_skip (Ib_n (Th_n (k6 _ _ (sq fun _ k15 => rg (Ls' rfl (Ln k15 (wR (fR (Res1 rfl rfl) ?_))))))))
          unfold ocheckOp_m; rewrite [iN hc1, iN hc2, iN hc4, iN hc6, iN hc7]
          exact ⟨rfl, hF⟩
        refine rg (Ly rfl (yf rfl Ty.fo_63_0) (Ly rfl (yl 0 Ty.pl_3 st rfl) (Ly rfl (yeq rfl) (Lm rfl (bE (s := 40) rfl (fun hc8 => ?_) (fun hc8 => ?_))))))
        · refine LyT rfl (yf rfl Ty.fo_63_2) (LyT rfl (yl 0 Ty.pl_2 st rfl) (LyT rfl (ylt rfl) (LyT rfl (y_move rfl rfl) (bD (s := 44) rfl (fun hc9 => ?_) (fun hc9 => ?_)))))
          · refine LsF rfl (LsF rfl (LsF rfl (LyT rfl (yT rfl) (Ly rfl (yT rfl) (Ls' rfl (Ls_nil (Th_n (?_))))))))
            exact hout4 _ [(36, _)] _ ⟨rfl, trivial⟩ ⟨by unfold ocheckOp_c4; rewrite [iP hc8, iP hc9]; rfl, (st.pk [0, 1] (by decide)).pickK [], hF⟩
          refine LyT rfl (yf rfl Ty.fo_63_2) (LyT rfl (yl 0 Ty.pl_2 st rfl) (LyT rfl (ygt rfl) (LyT rfl (yF rfl) (Ly rfl (yT rfl) (Ls' rfl (Ls_nil (Th_n (?_))))))))
          exact hout4 _ [(36, _)] _ ⟨rfl, trivial⟩ ⟨by unfold ocheckOp_c4; rewrite [iP hc8, iN hc9]; rfl, (st.pk [0, 1] (by decide)).pickK [], hF⟩
        refine LsF rfl (LsF rfl (LsF rfl (LsF rfl (LsU rfl (LsU rfl (LsU rfl (LsF rfl (Ly rfl (yF rfl) (Ls' rfl (Ls_nil (Th_n (?_))))))))))))
        exact hout4 _ [(36, _)] _ ⟨rfl, trivial⟩ ⟨by unfold ocheckOp_c4; rewrite [iN hc8]; rfl, (st.pk [0, 1] (by decide)).pickK [], hF⟩
      refine rg (Ly rfl (yf rfl Ty.fo_104_1) (Ly rfl (yl 1 Ty.pl_4 st rfl) (Ly rfl (yn rfl) (Lm rfl (bBn (s := 31) rfl (fun hc10 => ?_) (fun hc10 => ?_))))))
      · refine LyT rfl (yf rfl Ty.fo_63_2) (LyT rfl (yl 0 Ty.pl_2 st rfl) (LyT rfl (yne rfl) (Ly rfl (yT rfl) (Ls' rfl (Ls_nil (Th_n (?_)))))))
        exact hout3 _ [(1, _), (11, _)] _ ⟨rfl, rfl, trivial⟩ ⟨by unfold ocheckOp_c3; rewrite [iN hc10]; rfl, (st.pk [0, 1] (by decide)).pickK [], hF⟩
      refine LsF rfl (LsF rfl (LsF rfl (Ly rfl (yF rfl) (Ls' rfl (Ls_nil (Th_n (?_)))))))
      exact hout3 _ [(1, _), (11, _)] _ ⟨rfl, rfl, trivial⟩ ⟨by unfold ocheckOp_c3; rewrite [iP hc10]; rfl, (st.pk [0, 1] (by decide)).pickK [], hF⟩
    refine rg (Ly rfl (yf rfl Ty.fo_104_0) (Ly rfl (yl 1 Ty.pl_4 st rfl) (Ly rfl (yn rfl) (Lm rfl (bBn (s := 23) rfl (fun hc11 => ?_) (fun hc11 => ?_))))))
    · refine LyT rfl (yf rfl Ty.fo_63_1) (LyT rfl (yl 0 Ty.pl_9 st rfl) (LyT rfl (y_nes rfl rfl rfl) (Ly rfl (yT rfl) (Ls' rfl (Ls_nil (Th_n (?_)))))))
      exact hout2 _ [(1, _), (3, _), (11, _)] _ ⟨rfl, rfl, rfl, trivial⟩ ⟨by unfold ocheckOp_c2; rewrite [iN hc11]; rfl, (st.pk [0, 1] (by decide)).pickK [], hF⟩
    refine LsF rfl (LsF rfl (LsF rfl (Ly rfl (yF rfl) (Ls' rfl (Ls_nil (Th_n (?_)))))))
    exact hout2 _ [(1, _), (3, _), (11, _)] _ ⟨rfl, rfl, rfl, trivial⟩ ⟨by unfold ocheckOp_c2; rewrite [iP hc11]; rfl, (st.pk [0, 1] (by decide)).pickK [], hF⟩
  refine rg (Ly rfl (yf rfl Ty.fo_104_0) (Ly rfl (yl 1 Ty.pl_4 st rfl) (Lm rfl (bB (s := 14) rfl (fun hc12 => ?_) (fun hc12 => ?_)))))
  · refine LyT rfl (yf rfl Ty.fo_63_1) (LyT rfl (yl 0 Ty.pl_9 st rfl) (LaT rfl (Scl st hF rfl (oelem_ok _ o.name) fun w10 st hF => LyT rfl (yn rfl) (Ly rfl (yT rfl) (Ls' rfl (Ls_nil (Th_n (?_))))))))
    exact hout1 _ [(1, _), (3, _), (11, _)] _ ⟨rfl, rfl, rfl, trivial⟩ ⟨by unfold ocheckOp_c1; rewrite [iP hc12]; rfl, (st.pk [0, 1] (by decide)).pickK [], hF⟩
  refine LsF rfl (LsF rfl (LsF rfl (LsF rfl (Ly rfl (yF rfl) (Ls' rfl (Ls_nil (Th_n (?_))))))))
  exact hout1 _ [(1, _), (3, _), (11, _)] _ ⟨rfl, rfl, rfl, trivial⟩ ⟨by unfold ocheckOp_c1; rewrite [iN hc12]; rfl, (st.pk [0, 1] (by decide)).pickK [], hF⟩
structure RegM where
  val : Int
  atF : StampM
instance : Inhabited RegM := ⟨⟨default, default⟩⟩
instance : DecidableEq RegM := fun a b => decidable_of_iff (a.val = b.val ∧ a.atF = b.atF) (by cases a; cases b; simp)
def regMC (x : RegM) : List Value := [.int .i64 x.val, .int .u32 x.atF.time, .int .i64 x.atF.origin]
structure NumM where
  plus : Int
  minus : Int
instance : Inhabited NumM := ⟨⟨default, default⟩⟩
instance : DecidableEq NumM := fun a b => decidable_of_iff (a.plus = b.plus ∧ a.minus = b.minus) (by cases a; cases b; simp)
def numMC (x : NumM) : List Value := [.int .i64 x.plus, .int .i64 x.minus]
structure ObjM where
  kind : Int
  reg : RegM
  num : NumM
  setF : SetM
  map : MapM
instance : Inhabited ObjM := ⟨⟨default, default, default, default, default⟩⟩
instance : DecidableEq ObjM := fun a b => decidable_of_iff (a.kind = b.kind ∧ a.reg = b.reg ∧ a.num = b.num ∧ a.setF = b.setF ∧ a.map = b.map) (by cases a; cases b; simp)
def onew_c1 (kind : Int) : Bool :=
  (if kind < 1 then true else decide (4 < kind))
def onew_m (kind : Int) : ObjM × Int :=
  if (onew_c1 kind) = true then
    ((⟨0, (⟨0, (⟨0, 0⟩ : StampM)⟩ : RegM), (⟨0, 0⟩ : NumM), (⟨([] : List AddM), ([] : List TagM)⟩ : SetM), (⟨([] : List PutM), ([] : List TagM)⟩ : MapM)⟩ : ObjM), 5)
  else
    ((⟨kind, (⟨0, (⟨0, 0⟩ : StampM)⟩ : RegM), (⟨0, 0⟩ : NumM), (⟨([] : List AddM), ([] : List TagM)⟩ : SetM), (⟨([] : List PutM), ([] : List TagM)⟩ : MapM)⟩ : ObjM), 0)
theorem onew_c1_iff (kind : Int) : (onew_c1 kind = true) ↔ ((kind < 1) ∨ (4 < kind)) := by
  unfold onew_c1; exact (ci1 decide_eq_true_iff)
theorem onew_ok (X : List Nat) (w : World) (hX : Lo X w) (kind : Int) :
    Fn Tryz.prog 18 [.int .i64 kind] w fun v w' => ∃ (A1 : Option Addr) (C1 : Nat) (A2 : Option Addr) (C2 : Nat) (A4 : Option Addr) (C4 : Nat) (A3 : Option Addr) (C3 : Nat), v = .tuple #[.agg #[.int .i64 (((onew_m kind).1).kind), .int .i64 ((((onew_m kind).1).reg).val), .int .u32 ((((onew_m kind).1).reg).atF.time), .int .i64 ((((onew_m kind).1).reg).atF.origin), .int .i64 ((((onew_m kind).1).num).plus), .int .i64 ((((onew_m kind).1).num).minus), .slice A1 ((((onew_m kind).1).setF).adds).length C1, .slice A2 ((((onew_m kind).1).setF).gone).length C2, .slice A4 ((((onew_m kind).1).map).puts).length C4, .slice A3 ((((onew_m kind).1).map).gone).length C3], .int .i64 ((onew_m kind).2)] ∧ Sld X w' A1 ((((onew_m kind).1).setF).adds).length C1 4 (((((onew_m kind).1).setF).adds).flatMap addMC) ∧ Sld X w' A2 ((((onew_m kind).1).setF).gone).length C2 3 (((((onew_m kind).1).setF).gone).flatMap tagMC) ∧ Sld X w' A4 ((((onew_m kind).1).map).puts).length C4 7 (((((onew_m kind).1).map).puts).flatMap putMC) ∧ Sld X w' A3 ((((onew_m kind).1).map).gone).length C3 3 (((((onew_m kind).1).map).gone).flatMap tagMC) ∧ Fr [] w w' := by
  refine Fn_of 13 Ty.en_18 Tryz.func18 rfl rfl rfl ?_
  dsimp only [argEnv]
  have st := stn0 hX
  have hF := Fr.refl ([]) w
  refine sq fun _ k1 => rg (La rfl (Sal Ty.zc_57 st hF rfl fun g1 w1 (st : St _ _ [_] _) hF hg1 => Ls' rfl (Ln k1 (sq fun _ k2 => sq fun _ k3 => ?_))))
  refine use_out k3 (fun E W => E = [(0, .int .i64 kind), (2, .pointer (some ⟨g1, 0, none⟩)), (9, .bool (onew_c1 kind))] ∧ St X W (hOf st) (kOf st) ∧ Fr ([]) w W) ?_ fun hout1 => ?_
  · rintro E w2 ⟨rfl, st, hF⟩
    have st : St X w2 [_] [] := st
    refine cB rfl (fun hc1 => ?_) (fun hc1 => ?_)
    · have jhc1 := (onew_c1_iff kind).1 hc1
      refine sq fun _ k4 => rg (Ly rfl (y_build (cells := [_, _, _, _, _, _, _, _, _, _]) rfl rfl Ty.zc_57 Ty.ps_57 rfl) (La rfl (Ssw 0 Ty.sz_57 st hF (.inr hg1) rfl fun w3 (st : St _ _ [_] _) hF => Ls' rfl (Ln k4 ?_))))
      have st := st.aN 4
      have st := st.aN 3
      have st := st.aN 7
      have st := st.aN 3
      refine wR (Th_r (fR (ResN2 rfl (rvc (i := 0) rfl Ty.ag_57 st.hp rfl rfl) rfl) ?_))
      unfold onew_m; rewrite [iP hc1]
      exact ⟨_, _, _, _, _, _, _, _, rfl, st.ot 0 rfl, st.ot 1 rfl, st.ot 2 rfl, st.ot 3 rfl, hF⟩
    have jhc1 := mt (onew_c1_iff kind).2 hc1
    refine sk k2 (sq fun _ k5 => rg (Lm rfl (Ly rfl (y_build (cells := [_, _, _, _, _, _, _, _, _, _]) rfl rfl Ty.zc_57 Ty.ps_57 rfl) (La rfl (Ssw 0 Ty.sz_57 st hF (.inr hg1) rfl fun w4 (st : St _ _ [_] _) hF => Ls' rfl (Ln k5 ?_))))))
    have st := st.aN 4
    have st := st.aN 3
    have st := st.aN 7
    have st := st.aN 3
    refine wR (fR (ResN2 rfl (rvc (i := 0) rfl Ty.ag_57 st.hp rfl rfl) rfl) ?_)
    unfold onew_m; rewrite [iN hc1]
    exact ⟨_, _, _, _, _, _, _, _, rfl, st.ot 0 rfl, st.ot 1 rfl, st.ot 2 rfl, st.ot 3 rfl, hF⟩
  refine rg (Lm rfl (Ly rfl (ylt rfl) (Lm rfl (bD (s := 6) rfl (fun hc2 => ?_) (fun hc2 => ?_)))))
  · refine LsF rfl (LsF rfl (Ly rfl (yT rfl) (Ls_nil (Th_n (?_)))))
    exact hout1 _ [(0, _), (2, _), (9, _)] _ ⟨rfl, rfl, rfl, trivial⟩ ⟨by unfold onew_c1; rewrite [iP hc2]; rfl, (st.pk [0] (by decide)).pickK [], hF⟩
  refine LyT rfl (y_move rfl rfl) (LyT rfl (ygt rfl) (Ly rfl (yF rfl) (Ls_nil (Th_n (?_)))))
  exact hout1 _ [(0, _), (2, _), (9, _)] _ ⟨rfl, rfl, rfl, trivial⟩ ⟨by unfold onew_c1; rewrite [iN hc2]; rfl, (st.pk [0] (by decide)).pickK [], hF⟩
def great12_m (s : SetM) : Bool :=
  if 200 < (s.adds.length : Int) then
    true
  else
    decide (200 < (s.gone.length : Int))
theorem great12_ok (X : List Nat) (w : World) (hX : Lo X w) (s : SetM) (A1 : Option Addr) (C1 : Nat) (A2 : Option Addr) (C2 : Nat) (z3 : Sld X w A1 s.adds.length C1 4 (s.adds.flatMap addMC)) (z4 : Sld X w A2 s.gone.length C2 3 (s.gone.flatMap tagMC)) :
    Fn Tryz.prog 19 [.agg #[.slice A1 s.adds.length C1, .slice A2 s.gone.length C2]] w fun v w' => v = .bool (great12_m s) ∧ Fr [] w w' := by
  refine Fn_of 13 Ty.en_19 Tryz.func19 rfl rfl rfl ?_
  dsimp only [argEnv]
  have st := stn2 hX z3 z4
  have hF := Fr.refl ([]) w
  have z1 := (st.q 0 rfl).le
  have z2 := (st.q 1 rfl).le
  refine sq fun _ k1 => rg (La rfl (Sbx st hF rfl fun g1 w1 (st : St _ _ [_] _) hF hg1 => Ls' rfl (Ln k1 (sq fun _ k2 => rg (Ly rfl (yf rfl Ty.fo_32_0) (Ly rfl (yl 0 Ty.pl_29 st rfl) (Ly rfl (yll rfl Tryz.underlying29) (Ly rfl (ygt rfl) (Lm rfl (bD (s := 7) rfl (fun hc1 => ?_) (fun hc1 => ?_)))))))))))
  · refine LsF rfl (LsF rfl (LsF rfl (LsF rfl (Ly rfl (yT rfl) (Ls' rfl (Ln k2 (wR (fR (Res1 rfl rfl) ?_))))))))
    unfold great12_m; rewrite [iP hc1]
    exact ⟨rfl, hF⟩
  refine LyT rfl (yf rfl Ty.fo_32_1) (LyT rfl (yl 0 Ty.pl_30 st rfl) (LyT rfl (yll rfl Tryz.underlying30) (LyT rfl (ygt rfl) (Ly rfl (yF rfl) (Ls' rfl (Ln k2 (wR (fR (Res1 rfl rfl) ?_))))))))
  unfold great12_m; rewrite [iN hc1]
  exact ⟨rfl, hF⟩
def great13_m (s : MapM) : Bool :=
  if 100 < (s.puts.length : Int) then
    true
  else
    decide (200 < (s.gone.length : Int))
theorem great13_ok (X : List Nat) (w : World) (hX : Lo X w) (s : MapM) (A2 : Option Addr) (C2 : Nat) (A1 : Option Addr) (C1 : Nat) (z4 : Sld X w A2 s.puts.length C2 7 (s.puts.flatMap putMC)) (z3 : Sld X w A1 s.gone.length C1 3 (s.gone.flatMap tagMC)) :
    Fn Tryz.prog 20 [.agg #[.slice A2 s.puts.length C2, .slice A1 s.gone.length C1]] w fun v w' => v = .bool (great13_m s) ∧ Fr [] w w' := by
  refine Fn_of 13 Ty.en_20 Tryz.func20 rfl rfl rfl ?_
  dsimp only [argEnv]
  have st := stn2 hX z4 z3
  have hF := Fr.refl ([]) w
  have z2 := (st.q 0 rfl).le
  have z1 := (st.q 1 rfl).le
  refine sq fun _ k1 => rg (La rfl (Sbx st hF rfl fun g1 w1 (st : St _ _ [_] _) hF hg1 => Ls' rfl (Ln k1 (sq fun _ k2 => rg (Ly rfl (yf rfl Ty.fo_35_0) (Ly rfl (yl 0 Ty.pl_33 st rfl) (Ly rfl (yll rfl Tryz.underlying33) (Ly rfl (ygt rfl) (Lm rfl (bD (s := 7) rfl (fun hc1 => ?_) (fun hc1 => ?_)))))))))))
  · refine LsF rfl (LsF rfl (LsF rfl (LsF rfl (Ly rfl (yT rfl) (Ls' rfl (Ln k2 (wR (fR (Res1 rfl rfl) ?_))))))))
    unfold great13_m; rewrite [iP hc1]
    exact ⟨rfl, hF⟩
  refine LyT rfl (yf rfl Ty.fo_35_1) (LyT rfl (yl 0 Ty.pl_30 st rfl) (LyT rfl (yll rfl Tryz.underlying30) (LyT rfl (ygt rfl) (Ly rfl (yF rfl) (Ls' rfl (Ln k2 (wR (fR (Res1 rfl rfl) ?_))))))))
  unfold great13_m; rewrite [iN hc1]
  exact ⟨rfl, hF⟩
def great14_m (s : ObjM) (e : EffectM) : Bool :=
  if (great12_m s.setF) = true then
    true
  else
    if (great13_m s.map) = true then
      true
    else
      if 100 < (e.tags.length : Int) then
        true
      else
        decide (1000 < (e.name.length : Int))
theorem great14_ok (X : List Nat) (w : World) (hX : Lo X w) (s : ObjM) (A1 : Option Addr) (C1 : Nat) (A2 : Option Addr) (C2 : Nat) (A4 : Option Addr) (C4 : Nat) (A3 : Option Addr) (C3 : Nat) (e : EffectM) (A5 : Option Addr) (C5 : Nat) (z5 : Sld X w A1 s.setF.adds.length C1 4 (s.setF.adds.flatMap addMC)) (z6 : Sld X w A2 s.setF.gone.length C2 3 (s.setF.gone.flatMap tagMC)) (z8 : Sld X w A4 s.map.puts.length C4 7 (s.map.puts.flatMap putMC)) (z7 : Sld X w A3 s.map.gone.length C3 3 (s.map.gone.flatMap tagMC)) (z10 : Sld X w A5 e.tags.length C5 3 (e.tags.flatMap tagMC)) :
    Fn Tryz.prog 5 [.agg #[.int .i64 s.kind, .int .i64 s.reg.val, .int .u32 s.reg.atF.time, .int .i64 s.reg.atF.origin, .int .i64 s.num.plus, .int .i64 s.num.minus, .slice A1 s.setF.adds.length C1, .slice A2 s.setF.gone.length C2, .slice A4 s.map.puts.length C4, .slice A3 s.map.gone.length C3], .agg #[.int .i64 e.act, sv e.name, .int .i64 e.val, .int .i64 e.tag.id.origin, .int .u32 e.tag.id.seq, .int .i64 e.tag.n, .int .u32 e.atF.time, .int .i64 e.atF.origin, .slice A5 e.tags.length C5]] w fun v w' => v = .bool (great14_m s e) ∧ Fr [] w w' := by
  refine Fn_of 25 Ty.en_5 Tryz.func5 rfl rfl rfl ?_
  dsimp only [argEnv]
  have st := stn5 hX z5 z6 z8 z7 z10
  have hF := Fr.refl ([]) w
  have z1 := (st.q 0 rfl).le
  have z2 := (st.q 1 rfl).le
  have z4 := (st.q 2 rfl).le
  have z3 := (st.q 3 rfl).le
  have z9 := (st.q 4 rfl).le
  refine sq fun _ k1 => rg (La rfl (Sbx st hF rfl fun g1 w1 (st : St _ _ [_] _) hF hg1 => La rfl (Sbx st hF rfl fun g2 w2 (st : St _ _ [_, _] _) hF hg2 => Ls' rfl (Ln k1 (sq fun _ k2 => rg (Ly rfl (yf rfl Ty.fo_37_3) (Ly rfl (ym 0 Ty.ag_32 st rfl) (La rfl (Scl st hF rfl (great12_ok (keys (hOf st) ++ X) _ st.Lo s.setF A1 C1 A2 C2 (st.q 0 rfl) (st.q 1 rfl)) fun w3 st hF => Lm rfl (bB (s := 8) rfl (fun hc1 => ?_) (fun hc1 => ?_)))))))))))
  · refine LsF rfl (LsF rfl (LsF rfl (Ly rfl (yT rfl) (Lm rfl (LsF rfl (LsF rfl (LsF rfl (LsF rfl (Ly rfl (yT rfl) (Lm rfl (LsF rfl (LsF rfl (LsF rfl (LsF rfl (Ly rfl (yT rfl) (Ls' rfl (Ln k2 (wR (fR (Res1 rfl rfl) ?_)))))))))))))))))))
    unfold great14_m; rewrite [iP hc1]
    exact ⟨rfl, hF⟩
  refine LyT rfl (yf rfl Ty.fo_37_4) (LyT rfl (ym 0 Ty.ag_35 st rfl) (LaT rfl (Scl st hF rfl (great13_ok (keys (hOf st) ++ X) _ st.Lo s.map A4 C4 A3 C3 (st.q 2 rfl) (st.q 3 rfl)) fun w4 st hF => Ly rfl (yF rfl) (Lm rfl (bB (s := 13) rfl (fun hc2 => ?_) (fun hc2 => ?_))))))
  · refine LsF rfl (LsF rfl (LsF rfl (LsF rfl (Ly rfl (yT rfl) (Lm rfl (LsF rfl (LsF rfl (LsF rfl (LsF rfl (Ly rfl (yT rfl) (Ls' rfl (Ln k2 (wR (fR (Res1 rfl rfl) ?_))))))))))))))
    unfold great14_m; rewrite [iN hc1, iP hc2]
    exact ⟨rfl, hF⟩
  refine LyT rfl (yf rfl Ty.fo_47_5) (LyT rfl (yl 1 Ty.pl_30 st rfl) (LyT rfl (yll rfl Tryz.underlying30) (LyT rfl (ygt rfl) (Ly rfl (yF rfl) (Lm rfl (bD (s := 19) rfl (fun hc3 => ?_) (fun hc3 => ?_)))))))
  · refine LsF rfl (LsF rfl (LsF rfl (LsF rfl (Ly rfl (yT rfl) (Ls' rfl (Ln k2 (wR (fR (Res1 rfl rfl) ?_))))))))
    unfold great14_m; rewrite [iN hc1, iN hc2, iP hc3]
    exact ⟨rfl, hF⟩
  refine LyT rfl (yf rfl Ty.fo_47_1) (LyT rfl (yl 1 Ty.pl_9 st rfl) (LyT rfl (y_lens rfl rfl Tryz.underlying9) (LyT rfl (ygt rfl) (Ly rfl (yF rfl) (Ls' rfl (Ln k2 (wR (fR (Res1 rfl rfl) ?_))))))))
  unfold great14_m; rewrite [iN hc1, iN hc2, iN hc3]
  exact ⟨rfl, hF⟩
def op14_m (o : OpM) : OpM :=
  o
theorem op14_ok (w : World) (o : OpM) :
    Fn Tryz.prog 8 [.agg (opMC o).toArray] w fun v w' => v = .agg (opMC (op14_m o)).toArray ∧ Fr [] w w' := by
  refine Fn_of 10 Ty.en_8 Tryz.func8 rfl rfl rfl ?_
  dsimp only [argEnv]
  have st := stn0 (X := []) (w := w) (by simp [Lo])
  have hF := Fr.refl ([]) w
  refine sq fun _ k1 => rg (La rfl (Sbx st hF rfl fun g1 w1 (st : St _ _ [_] _) hF hg1 => La rfl (Sal Ty.zc_63 st hF rfl fun g2 w2 (st : St _ _ [_, _] _) hF hg2 => Ln k1 (sq fun _ k2 => rg (Ly rfl (yf rfl Ty.fo_39_0) (Ly rfl (yl 0 Ty.pl_3 st rfl) (Ly rfl (yf rfl Ty.fo_39_1) (Ly rfl (yl 0 Ty.pl_9 st rfl) (Ly rfl (yf rfl Ty.fo_39_2) (Ly rfl (yl 0 Ty.pl_2 st rfl) (Ly rfl (y_build (cells := [_, _, _]) rfl rfl Ty.zc_63 Ty.ps_63 rfl) (La rfl (Ssw 1 Ty.sz_63 st hF (.inr hg2) rfl fun w3 (st : St _ _ [_, _] _) hF => Ln k2 (wR (fR (ResN1 rfl (rvc (i := 1) rfl Ty.ag_63 st.hp rfl rfl)) ?_)))))))))))))))
  unfold op14_m
  exact ⟨rfl, hF⟩
def to10_m (s : RegM) : RegM :=
  s
theorem to10_ok (w : World) (s : RegM) :
    Fn Tryz.prog 21 [.agg (regMC s).toArray] w fun v w' => v = .agg (regMC (to10_m s)).toArray ∧ Fr [] w w' := by
  refine Fn_of 8 Ty.en_21 Tryz.func21 rfl rfl rfl ?_
  dsimp only [argEnv]
  have st := stn0 (X := []) (w := w) (by simp [Lo])
  have hF := Fr.refl ([]) w
  refine sq fun _ k1 => rg (La rfl (Sbx st hF rfl fun g1 w1 (st : St _ _ [_] _) hF hg1 => La rfl (Sal Ty.zc_48 st hF rfl fun g2 w2 (st : St _ _ [_, _] _) hF hg2 => Ln k1 (sq fun _ k2 => rg (Ly rfl (yf rfl Ty.fo_26_0) (Ly rfl (yl 0 Ty.pl_2 st rfl) (Ly rfl (yf rfl Ty.fo_26_1) (Ly rfl (ym 0 Ty.ag_24 st rfl) (Ly rfl (y_build (cells := [_, _, _]) rfl rfl Ty.zc_48 Ty.ps_48 rfl) (La rfl (Ssw 1 Ty.sz_48 st hF (.inr hg2) rfl fun w3 (st : St _ _ [_, _] _) hF => Ln k2 (wR (fR (ResN1 rfl (rvc (i := 1) rfl Ty.ag_48 st.hp rfl rfl)) ?_)))))))))))))
  unfold to10_m
  exact ⟨rfl, hF⟩
def to11_m (s : NumM) : NumM :=
  s
theorem to11_ok (w : World) (s : NumM) :
    Fn Tryz.prog 22 [.agg (numMC s).toArray] w fun v w' => v = .agg (numMC (to11_m s)).toArray ∧ Fr [] w w' := by
  refine Fn_of 8 Ty.en_22 Tryz.func22 rfl rfl rfl ?_
  dsimp only [argEnv]
  have st := stn0 (X := []) (w := w) (by simp [Lo])
  have hF := Fr.refl ([]) w
  refine sq fun _ k1 => rg (La rfl (Sbx st hF rfl fun g1 w1 (st : St _ _ [_] _) hF hg1 => La rfl (Sal Ty.zc_49 st hF rfl fun g2 w2 (st : St _ _ [_, _] _) hF hg2 => Ln k1 (sq fun _ k2 => rg (Ly rfl (yf rfl Ty.fo_28_0) (Ly rfl (yl 0 Ty.pl_2 st rfl) (Ly rfl (yf rfl Ty.fo_28_1) (Ly rfl (yl 0 Ty.pl_2 st rfl) (Ly rfl (y_build (cells := [_, _]) rfl rfl Ty.zc_49 Ty.ps_49 rfl) (La rfl (Ssw 1 Ty.sz_49 st hF (.inr hg2) rfl fun w3 (st : St _ _ [_, _] _) hF => Ln k2 (wR (fR (ResN1 rfl (rvc (i := 1) rfl Ty.ag_49 st.hp rfl rfl)) ?_)))))))))))))
  unfold to11_m
  exact ⟨rfl, hF⟩
def put13_m (p : PutM) : PutM :=
  p
theorem put13_ok (w : World) (p : PutM) :
    Fn Tryz.prog 60 [.agg (putMC p).toArray] w fun v w' => v = .agg (putMC (put13_m p)).toArray ∧ Fr [] w w' := by
  refine Fn_of 12 Ty.en_60 Tryz.func60 rfl rfl rfl ?_
  dsimp only [argEnv]
  have st := stn0 (X := []) (w := w) (by simp [Lo])
  have hF := Fr.refl ([]) w
  refine sq fun _ k1 => rg (La rfl (Sbx st hF rfl fun g1 w1 (st : St _ _ [_] _) hF hg1 => La rfl (Sal Ty.zc_131 st hF rfl fun g2 w2 (st : St _ _ [_, _] _) hF hg2 => Ln k1 (sq fun _ k2 => rg (Ly rfl (yf rfl Ty.fo_143_0) (Ly rfl (ym 0 Ty.ag_43 st rfl) (Ly rfl (yf rfl Ty.fo_143_1) (Ly rfl (yl 0 Ty.pl_9 st rfl) (Ly rfl (yf rfl Ty.fo_143_2) (Ly rfl (yl 0 Ty.pl_2 st rfl) (Ly rfl (yf rfl Ty.fo_143_3) (Ly rfl (ym 0 Ty.ag_24 st rfl) (Ly rfl (y_build (cells := [_, _, _, _, _, _, _]) rfl rfl Ty.zc_131 Ty.ps_131 rfl) (La rfl (Ssw 1 Ty.sz_131 st hF (.inr hg2) rfl fun w3 (st : St _ _ [_, _] _) hF => Ln k2 (wR (fR (ResN1 rfl (rvc (i := 1) rfl Ty.ag_131 st.hp rfl rfl)) ?_)))))))))))))))))
  unfold put13_m
  exact ⟨rfl, hF⟩
def to12_L1 (s : SetM) : Nat → Int → (List AddM) → (SetM) ⊕ (Int × (List AddM))
  | 0, s4, u2_0 => .inr (s4, u2_0)
  | fuel + 1, s4, u2_0 =>
    if s4 < (s.adds.length : Int) then
      to12_L1 s fuel (s4 + 1) (u2_0 ++ [(⟨(⟨(⟨((ix s.adds s4).tag).id.origin, ((ix s.adds s4).tag).id.seq⟩ : IdM), ((ix s.adds s4).tag).n⟩ : TagM), (ix s.adds s4).elem⟩ : AddM)])
    else
      .inr (s4, u2_0)
def to12_m (s : SetM) : SetM :=
  match to12_L1 s (((s.adds.length : Int) - (0 : Int)).toNat + 1) (0 : Int) ([] : List AddM) with
  | .inl r => r
  | .inr (s4, u2_0) =>
    (⟨u2_0, ([] : List TagM) ++ s.gone⟩ : SetM)
theorem to12_ok (X : List Nat) (w : World) (hX : Lo X w) (s : SetM) (A1 : Option Addr) (C1 : Nat) (A2 : Option Addr) (C2 : Nat) (z4 : Sld X w A1 s.adds.length C1 4 (s.adds.flatMap addMC)) (z5 : Sld X w A2 s.gone.length C2 3 (s.gone.flatMap tagMC)) (h1 : s.adds.length ≤ 1000000) (h2 : s.gone.length ≤ 1000000) :
    Fn Tryz.prog 23 [.agg #[.slice A1 s.adds.length C1, .slice A2 s.gone.length C2]] w fun v w' => ∃ (A3 : Option Addr) (C3 : Nat) (A4 : Option Addr) (C4 : Nat), v = .agg #[.slice A3 ((to12_m s).adds).length C3, .slice A4 ((to12_m s).gone).length C4] ∧ Sld X w' A3 ((to12_m s).adds).length C3 4 (((to12_m s).adds).flatMap addMC) ∧ Sld X w' A4 ((to12_m s).gone).length C4 3 (((to12_m s).gone).flatMap tagMC) ∧ Fr [] w w' := by
  refine Fn_of 37 Ty.en_23 Tryz.func23 rfl rfl rfl ?_
  dsimp only [argEnv]
  have st := stn2 hX z4 z5
  have hF := Fr.refl ([]) w
  have z1 := (st.q 0 rfl).le
  have z2 := (st.q 1 rfl).le
  refine sq fun _ k1 => rg (La rfl (Sbx st hF rfl fun g1 w1 (st : St _ _ [_] _) hF hg1 => La rfl (Sal Ty.zc_52 st hF rfl fun g2 w2 (st : St _ _ [_, _] _) hF hg2 => Ln k1 (sq fun _ k2 => rg (La rfl (Sal Ty.zc_52 st hF rfl fun g3 w3 (st : St _ _ [_, _, _] _) hF hg3 => Ln k2 (sq fun _ k3 => sq fun _ k4 => rg (Ls' rfl (Ln k4 (Wp_block ?_))))))))))
  obtain ⟨st, how1, hnew1⟩ := st.rowN addMC hF 4 126
  have st : St _ _ [_, _, _, _] _ := st
  refine lp (fun q E W => ∃ (s4 : Int) (u2_0 : List AddM) (Au2_0 : Option Addr) (cu2_0 : Nat) (spu2_0 : List Value), E = [(1, .pointer (some ⟨g1, 0, none⟩)), (2, .pointer (some ⟨g2, 0, none⟩)), (3, .pointer (some ⟨g3, 0, none⟩)), (4, .int .i64 s4)] ∧ jq q (fun m => (to12_L1 s m s4 u2_0 = to12_L1 s (((s.adds.length : Int) - (0 : Int)).toNat + 1) (0 : Int) ([] : List AddM) ∧ ((s.adds.length : Int) - s4).toNat < m)) (to12_L1 s (((s.adds.length : Int) - (0 : Int)).toNat + 1) (0 : Int) ([] : List AddM) = .inr (s4, u2_0)) ∧ (0 ≤ s4 ∧ (u2_0.length : Int) ≤ s4) ∧ Ow Au2_0 u2_0.length cu2_0 4 (u2_0.flatMap addMC) spu2_0 ∧ (∀ g, blkOf Au2_0 = some g → g ∈ ([]) ∨ w.heap.size ≤ g) ∧ St X W [(some g1, Cl [.slice A1 s.adds.length C1, .slice A2 s.gone.length C2] 32), (some g2, Cl [.slice none 0 0, .slice none 0 0] 52), (some g3, Cl [.slice Au2_0 u2_0.length cu2_0, .slice none 0 0] 52), (blkOf Au2_0, Cl (u2_0.flatMap addMC ++ spu2_0) 126)] [kS A1 s.adds.length C1 4 (s.adds.flatMap addMC), kS A2 s.gone.length C2 3 (s.gone.flatMap tagMC)] ∧ Fr ([]) w W) (((s.adds.length : Int) - (0 : Int)).toNat + 1) [(1, _), (2, _), (3, _), (4, _)] ⟨rfl, rfl, rfl, rfl, trivial⟩ ⟨_, _, _, _, _, rfl, ⟨rfl, Nat.lt_succ_self _⟩, by first | omega | (simp; done) | (simp; omega), how1, hnew1, st, hF⟩ k3 ?_ fun hout1 => ?_
  · rintro E w4 ⟨s4, u2_0, Au2_0, cu2_0, spu2_0, rfl, hLk1, hinv, howu2_0, newu2_0, st, hF⟩
    unfold jq at hLk1; dsimp only at hLk1
    refine sq fun _ k5 => rg (Ly rfl (yf rfl Ty.fo_52_1) (Ly rfl (yl 2 Ty.pl_30 st rfl) (Ly rfl (yf rfl Ty.fo_32_1) (Ly rfl (yl 0 Ty.pl_30 st rfl) ?_))))
    obtain ⟨st, how2, hnew2⟩ := st.rowN tagMC hF 3 43
    have st : St _ _ [_, _, _, _, _] _ := st
    refine La rfl (Sap (enc := tagMC) ([] : List TagM) s.gone 4 Ty.es_30 Ty.zc_43 Ty.by_43 (fun _ => rfl) tagMC_1 how2 hnew2 st hF (st.k (i := 1) rfl).rd.src (fun h => by have := (st.k (i := 1) rfl).rd; exact rd_none this h (st.k (i := 1) rfl).len (by decide)) rfl (by first | omega | (simp; done) | (simp; omega)) (by first | omega | (simp; done) | (simp; omega)) fun Aa1 ca1 sp1 w5 how3 hnew3 (st : St _ _ [_, _, _, _, _] _) hF => ?_)
    refine Ly rfl (yf rfl Ty.fo_52_1) (La rfl (Ss1 2 Ty.sz_30 st hF (.inr hg3) rfl fun w6 (st : St _ _ [_, _, (_, Cl [_, _] _), _, _] _) hF => Ln k5 (sq fun _ k6 => rg (Ly rfl (yw 2 Ty.ag_52 st rfl) (La rfl (Ssw 1 Ty.sz_52 st hF (.inr hg2) rfl fun w7 (st : St _ _ [_, _, _, _, _] _) hF => Ln k6 ?_))))))
    have st : St X w7 [_, _, _, _] [_, _, _] := st.freeze (i := 3) [0, 1, 2, 4] (by decide) rfl howu2_0 (by decide)
    have st : St X w7 [_, _, _] [_, _, _, _] := st.freeze (i := 3) [0, 1, 2] (by decide) rfl how3 (by decide)
    refine wR (fR (ResN1 rfl (rvc (i := 1) rfl Ty.ag_52 st.hp rfl rfl)) ?_)
    unfold to12_m; rewrite [hLk1]; (try dsimp only)
    exact ⟨_, _, _, _, rfl, st.ot 2 rfl, st.ot 3 rfl, hF⟩
  rintro m E w8 ⟨s4, u2_0, Au2_0, cu2_0, spu2_0, rfl, ⟨hL1, hmu⟩, hinv, howu2_0, newu2_0, st, hF⟩
  obtain ⟨fuel, rfl⟩ : ∃ q, m = q + 1 := ⟨m - 1, by omega⟩
  have z3 := Ow.le howu2_0
  refine sq fun _ k7 => sq fun _ k8 => rg (Lm rfl (Ly rfl (yf rfl Ty.fo_32_0) (Ly rfl (yl 0 Ty.pl_29 st rfl) (Ly rfl (yll rfl Tryz.underlying29) (Ly rfl (ylt rfl) (Ln k8 (cD rfl (fun hc1 => ?_) (fun hc1 => ?_))))))))
  · refine sk k7 (sq fun _ k9 => Wp_block ?_)
    refine Wp_planF (fun W => St X W (pickL (hOf st) [0, 1, 2]) (kOf st)) [(true, 0), (true, 1), (true, 2), (true, 3), (true, 4), (true, 5), (true, 6), (true, 7), (true, 8), (true, 9), (true, 10), (true, 11), (true, 12), (true, 13), (true, 14), (false, 15), (false, 16), (true, 17)] 18 Ty.mx_0 (by kernel_rfl) (by kernel_rfl) (by kernel_rfl) rfl ((st.pk [0, 1, 2] (by decide)).drew) ?_
    have st := st.drew
    have hF := hF.step0 (Fr.drew _)
    refine Py rfl (yf rfl Ty.fo_52_0) (Py rfl (y_load (i := 2) rfl rfl Ty.pl_50 (fun _ h => h.hp) rfl rfl) (Py rfl (yf rfl Ty.fo_32_0) (Py rfl (y_load (i := 0) rfl rfl Ty.pl_29 (fun _ h => h.hp) rfl rfl) (Pm rfl ?_))))
    obtain ⟨gi1, bi1, egi1⟩ := (st.k (i := 0) rfl).addr (fun _ => rfl) (by decide) (q := s4) (by first | omega | (simp; done) | (simp; omega)) (by first | omega | (simp; done) | (simp; omega))
    subst egi1
    refine Py rfl (y_ixa (q := s4) rfl rfl rfl Ty.es_29 (by first | omega | (simp; done) | (simp; omega)) (by first | omega | (simp; done) | (simp; omega))) ?_
    refine Py rfl (yf rfl Ty.fo_141_0) (Py rfl (y_ldkm (q := s4) 0 rfl rfl Ty.ag_43 (fun _ h => h.k (i := 0) rfl) (fun _ => rfl) (by first | omega | (simp; done) | (simp; omega)) (by first | omega | (simp; done) | (simp; omega)) rfl rfl) ?_)
    refine Py rfl (yf rfl Ty.fo_32_0) (Py rfl (y_load (i := 0) rfl rfl Ty.pl_29 (fun _ h => h.hp) rfl rfl) (Pm rfl (Py rfl (y_ixa (q := s4) rfl rfl rfl Ty.es_29 (by first | omega | (simp; done) | (simp; omega)) (by first | omega | (simp; done) | (simp; omega))) ?_)))
    refine Py rfl (yf rfl Ty.fo_141_1) (Py rfl (y_ldk1 (q := s4) 3 rfl rfl Ty.pl_9 (fun _ h => h.k (i := 0) rfl) (fun _ => rfl) (by first | omega | (simp; done) | (simp; omega)) (by first | omega | (simp; done) | (simp; omega)) rfl) ?_)
    refine Py rfl (y_build (cells := [_, _, _, _]) rfl rfl Ty.zc_126 Ty.ps_126 rfl) (Pl_a rfl (wtd0 rfl) (by rfl) ?_)
    refine Sb (enc := addMC) (⟨(⟨(⟨((ix s.adds s4).tag).id.origin, ((ix s.adds s4).tag).id.seq⟩ : IdM), ((ix s.adds s4).tag).n⟩ : TagM), (ix s.adds s4).elem⟩ : AddM) Ty.es_50 Ty.zc_126 (fun _ => rfl) st hF rfl fun g4 w9 how4 hnew4 (st : St _ _ [_, _, _, _, _] _) hF => ?_
    refine ⟨(st.pk [0, 1, 2] (by decide)).tK 2, ?_⟩
    refine Pl_a rfl (wtd0 rfl) (by rfl) ?_
    refine Sap (enc := addMC) u2_0 [(⟨(⟨(⟨((ix s.adds s4).tag).id.origin, ((ix s.adds s4).tag).id.seq⟩ : IdM), ((ix s.adds s4).tag).n⟩ : TagM), (ix s.adds s4).elem⟩ : AddM)] 3 Ty.es_50 Ty.zc_126 Ty.by_126 (fun _ => rfl) addMC_1 howu2_0 newu2_0 st hF (own_src (i := 4) st.hp rfl how4) (own_none how4) rfl (by first | omega | (simp; done) | (simp; omega)) (by first | omega | (simp; done) | (simp; omega)) fun Aa2 ca2 sp2 w10 how5 hnew5 (st : St _ _ [_, _, _, _, _] _) hF => ?_
    refine ⟨(st.pk [0, 1, 2] (by decide)).tK 2, ?_⟩
    refine Py rfl (yf rfl Ty.fo_52_0) (Pl_nil (Fin_a rfl (wtd0 rfl) (Ss1 2 Ty.sz_50 st hF (.inr hg3) rfl fun w11 (st : St _ _ [_, _, (_, Cl [_, _] _), _, _] _) hF => id (Ib_n (Th_n (k9 _ _ (rg (Lm rfl (Ly rfl (y_add (c := s4 + 1) rfl rfl rfl (wf_i64 (by first | omega | (simp; done) | (simp; omega)))) ?_)))))))))
    refine Ls' rfl (Ls_nil (Th_n (?_)))
    exact ⟨fuel, [(1, _), (2, _), (3, _), (4, _)], Nat.lt_succ_self _, ⟨rfl, rfl, rfl, rfl, trivial⟩, (s4 + 1), (u2_0 ++ [(⟨(⟨(⟨((ix s.adds s4).tag).id.origin, ((ix s.adds s4).tag).id.seq⟩ : IdM), ((ix s.adds s4).tag).n⟩ : TagM), (ix s.adds s4).elem⟩ : AddM)]), Aa2, ca2, sp2, rfl, ⟨by rewrite [← hL1, to12_L1]; rewrite [iP hc1]; rfl, by first | omega | (simp; done) | (simp; omega)⟩, by first | omega | (simp; done) | (simp; omega), how5, hnew5, (st.pk [0, 1, 2, 3] (by decide)).pickK [0, 1], hF⟩
  refine Wp_exit (Th_e (Th_e (Ib_hit (Th_n (?_)))))
  exact hout1 _ [(1, _), (2, _), (3, _), (4, _)] _ ⟨rfl, rfl, rfl, rfl, trivial⟩ ⟨s4, u2_0, Au2_0, cu2_0, spu2_0, rfl, show _ = _ from by rewrite [← hL1, to12_L1]; rewrite [iN hc1]; rfl, by first | omega | (simp; done) | (simp; omega), howu2_0, newu2_0, (st.pk [0, 1, 2, 3] (by decide)).pickK [0, 1], hF⟩
def to13_L1 (s : MapM) : Nat → Int → (List PutM) → (MapM) ⊕ (Int × (List PutM))
  | 0, s4, u2_0 => .inr (s4, u2_0)
  | fuel + 1, s4, u2_0 =>
    if s4 < (s.puts.length : Int) then
      to13_L1 s fuel (s4 + 1) (u2_0 ++ [put13_m (ix s.puts s4)])
    else
      .inr (s4, u2_0)
def to13_m (s : MapM) : MapM :=
  match to13_L1 s (((s.puts.length : Int) - (0 : Int)).toNat + 1) (0 : Int) ([] : List PutM) with
  | .inl r => r
  | .inr (s4, u2_0) =>
    (⟨u2_0, ([] : List TagM) ++ s.gone⟩ : MapM)
theorem to13_ok (X : List Nat) (w : World) (hX : Lo X w) (s : MapM) (A2 : Option Addr) (C2 : Nat) (A1 : Option Addr) (C1 : Nat) (z5 : Sld X w A2 s.puts.length C2 7 (s.puts.flatMap putMC)) (z4 : Sld X w A1 s.gone.length C1 3 (s.gone.flatMap tagMC)) (h1 : s.puts.length ≤ 1000000) (h2 : s.gone.length ≤ 1000000) :
    Fn Tryz.prog 24 [.agg #[.slice A2 s.puts.length C2, .slice A1 s.gone.length C1]] w fun v w' => ∃ (A4 : Option Addr) (C4 : Nat) (A3 : Option Addr) (C3 : Nat), v = .agg #[.slice A4 ((to13_m s).puts).length C4, .slice A3 ((to13_m s).gone).length C3] ∧ Sld X w' A4 ((to13_m s).puts).length C4 7 (((to13_m s).puts).flatMap putMC) ∧ Sld X w' A3 ((to13_m s).gone).length C3 3 (((to13_m s).gone).flatMap tagMC) ∧ Fr [] w w' := by
  refine Fn_of 30 Ty.en_24 Tryz.func24 rfl rfl rfl ?_
  dsimp only [argEnv]
  have st := stn2 hX z5 z4
  have hF := Fr.refl ([]) w
  have z2 := (st.q 0 rfl).le
  have z1 := (st.q 1 rfl).le
  refine sq fun _ k1 => rg (La rfl (Sbx st hF rfl fun g1 w1 (st : St _ _ [_] _) hF hg1 => La rfl (Sal Ty.zc_55 st hF rfl fun g2 w2 (st : St _ _ [_, _] _) hF hg2 => Ln k1 (sq fun _ k2 => rg (La rfl (Sal Ty.zc_55 st hF rfl fun g3 w3 (st : St _ _ [_, _, _] _) hF hg3 => Ln k2 (sq fun _ k3 => sq fun _ k4 => rg (Ls' rfl (Ln k4 (Wp_block ?_))))))))))
  obtain ⟨st, how1, hnew1⟩ := st.rowN putMC hF 7 131
  have st : St _ _ [_, _, _, _] _ := st
  refine lp (fun q E W => ∃ (s4 : Int) (u2_0 : List PutM) (Au2_0 : Option Addr) (cu2_0 : Nat) (spu2_0 : List Value), E = [(1, .pointer (some ⟨g1, 0, none⟩)), (2, .pointer (some ⟨g2, 0, none⟩)), (3, .pointer (some ⟨g3, 0, none⟩)), (4, .int .i64 s4)] ∧ jq q (fun m => (to13_L1 s m s4 u2_0 = to13_L1 s (((s.puts.length : Int) - (0 : Int)).toNat + 1) (0 : Int) ([] : List PutM) ∧ ((s.puts.length : Int) - s4).toNat < m)) (to13_L1 s (((s.puts.length : Int) - (0 : Int)).toNat + 1) (0 : Int) ([] : List PutM) = .inr (s4, u2_0)) ∧ (0 ≤ s4 ∧ (u2_0.length : Int) ≤ s4) ∧ Ow Au2_0 u2_0.length cu2_0 7 (u2_0.flatMap putMC) spu2_0 ∧ (∀ g, blkOf Au2_0 = some g → g ∈ ([]) ∨ w.heap.size ≤ g) ∧ St X W [(some g1, Cl [.slice A2 s.puts.length C2, .slice A1 s.gone.length C1] 35), (some g2, Cl [.slice none 0 0, .slice none 0 0] 55), (some g3, Cl [.slice Au2_0 u2_0.length cu2_0, .slice none 0 0] 55), (blkOf Au2_0, Cl (u2_0.flatMap putMC ++ spu2_0) 131)] [kS A2 s.puts.length C2 7 (s.puts.flatMap putMC), kS A1 s.gone.length C1 3 (s.gone.flatMap tagMC)] ∧ Fr ([]) w W) (((s.puts.length : Int) - (0 : Int)).toNat + 1) [(1, _), (2, _), (3, _), (4, _)] ⟨rfl, rfl, rfl, rfl, trivial⟩ ⟨_, _, _, _, _, rfl, ⟨rfl, Nat.lt_succ_self _⟩, by first | omega | (simp; done) | (simp; omega), how1, hnew1, st, hF⟩ k3 ?_ fun hout1 => ?_
  · rintro E w4 ⟨s4, u2_0, Au2_0, cu2_0, spu2_0, rfl, hLk1, hinv, howu2_0, newu2_0, st, hF⟩
    unfold jq at hLk1; dsimp only at hLk1
    refine sq fun _ k5 => rg (Ly rfl (yf rfl Ty.fo_55_1) (Ly rfl (yl 2 Ty.pl_30 st rfl) (Ly rfl (yf rfl Ty.fo_35_1) (Ly rfl (yl 0 Ty.pl_30 st rfl) ?_))))
    obtain ⟨st, how2, hnew2⟩ := st.rowN tagMC hF 3 43
    have st : St _ _ [_, _, _, _, _] _ := st
    refine La rfl (Sap (enc := tagMC) ([] : List TagM) s.gone 4 Ty.es_30 Ty.zc_43 Ty.by_43 (fun _ => rfl) tagMC_1 how2 hnew2 st hF (st.k (i := 1) rfl).rd.src (fun h => by have := (st.k (i := 1) rfl).rd; exact rd_none this h (st.k (i := 1) rfl).len (by decide)) rfl (by first | omega | (simp; done) | (simp; omega)) (by first | omega | (simp; done) | (simp; omega)) fun Aa1 ca1 sp1 w5 how3 hnew3 (st : St _ _ [_, _, _, _, _] _) hF => ?_)
    refine Ly rfl (yf rfl Ty.fo_55_1) (La rfl (Ss1 2 Ty.sz_30 st hF (.inr hg3) rfl fun w6 (st : St _ _ [_, _, (_, Cl [_, _] _), _, _] _) hF => Ln k5 (sq fun _ k6 => rg (Ly rfl (yw 2 Ty.ag_55 st rfl) (La rfl (Ssw 1 Ty.sz_55 st hF (.inr hg2) rfl fun w7 (st : St _ _ [_, _, _, _, _] _) hF => Ln k6 ?_))))))
    have st : St X w7 [_, _, _, _] [_, _, _] := st.freeze (i := 3) [0, 1, 2, 4] (by decide) rfl howu2_0 (by decide)
    have st : St X w7 [_, _, _] [_, _, _, _] := st.freeze (i := 3) [0, 1, 2] (by decide) rfl how3 (by decide)
    refine wR (fR (ResN1 rfl (rvc (i := 1) rfl Ty.ag_55 st.hp rfl rfl)) ?_)
    unfold to13_m; rewrite [hLk1]; (try dsimp only)
    exact ⟨_, _, _, _, rfl, st.ot 2 rfl, st.ot 3 rfl, hF⟩
  rintro m E w8 ⟨s4, u2_0, Au2_0, cu2_0, spu2_0, rfl, ⟨hL1, hmu⟩, hinv, howu2_0, newu2_0, st, hF⟩
  obtain ⟨fuel, rfl⟩ : ∃ q, m = q + 1 := ⟨m - 1, by omega⟩
  have z3 := Ow.le howu2_0
  refine sq fun _ k7 => sq fun _ k8 => rg (Lm rfl (Ly rfl (yf rfl Ty.fo_35_0) (Ly rfl (yl 0 Ty.pl_33 st rfl) (Ly rfl (yll rfl Tryz.underlying33) (Ly rfl (ylt rfl) (Ln k8 (cD rfl (fun hc1 => ?_) (fun hc1 => ?_))))))))
  · refine sk k7 (sq fun _ k9 => Wp_block ?_)
    refine Wp_planF (fun W => St X W (pickL (hOf st) [0, 1, 2]) (kOf st)) [(true, 0), (true, 1), (true, 2), (true, 3), (true, 4), (true, 5), (true, 6), (false, 7), (false, 8), (false, 9), (true, 10)] 11 Ty.mx_0 (by kernel_rfl) (by kernel_rfl) (by kernel_rfl) rfl ((st.pk [0, 1, 2] (by decide)).drew) ?_
    have st := st.drew
    have hF := hF.step0 (Fr.drew _)
    refine Py rfl (yf rfl Ty.fo_55_0) (Py rfl (y_load (i := 2) rfl rfl Ty.pl_53 (fun _ h => h.hp) rfl rfl) (Py rfl (yf rfl Ty.fo_35_0) (Py rfl (y_load (i := 0) rfl rfl Ty.pl_33 (fun _ h => h.hp) rfl rfl) (Pm rfl ?_))))
    obtain ⟨gi1, bi1, egi1⟩ := (st.k (i := 0) rfl).addr (fun _ => rfl) (by decide) (q := s4) (by first | omega | (simp; done) | (simp; omega)) (by first | omega | (simp; done) | (simp; omega))
    subst egi1
    refine Py rfl (y_ixa (q := s4) rfl rfl rfl Ty.es_33 (by first | omega | (simp; done) | (simp; omega)) (by first | omega | (simp; done) | (simp; omega))) ?_
    refine Py rfl (y_ldk (q := s4) rfl rfl Ty.ag_143 (fun _ h => h.k (i := 0) rfl) (fun _ => rfl) (by first | omega | (simp; done) | (simp; omega)) (by first | omega | (simp; done) | (simp; omega))) ?_
    refine Pl_a rfl (wtd0 rfl) (by rfl) ?_
    refine Scl st hF rfl (put13_ok _ (ix s.puts s4)) fun w9 st hF => ?_
    refine ⟨(st.pk [0, 1, 2] (by decide)).tK 2, ?_⟩
    refine Pl_a rfl (wtd0 rfl) (by rfl) ?_
    refine Sb (enc := putMC) (put13_m (ix s.puts s4)) Ty.es_53 Ty.zc_131 (fun _ => rfl) st hF rfl fun g4 w10 how4 hnew4 (st : St _ _ [_, _, _, _, _] _) hF => ?_
    refine ⟨(st.pk [0, 1, 2] (by decide)).tK 2, ?_⟩
    refine Pl_a rfl (wtd0 rfl) (by rfl) ?_
    refine Sap (enc := putMC) u2_0 [put13_m (ix s.puts s4)] 3 Ty.es_53 Ty.zc_131 Ty.by_131 (fun _ => rfl) putMC_1 howu2_0 newu2_0 st hF (own_src (i := 4) st.hp rfl how4) (own_none how4) rfl (by first | omega | (simp; done) | (simp; omega)) (by first | omega | (simp; done) | (simp; omega)) fun Aa2 ca2 sp2 w11 how5 hnew5 (st : St _ _ [_, _, _, _, _] _) hF => ?_
    refine ⟨(st.pk [0, 1, 2] (by decide)).tK 2, ?_⟩
    refine Py rfl (yf rfl Ty.fo_55_0) (Pl_nil (Fin_a rfl (wtd0 rfl) (Ss1 2 Ty.sz_53 st hF (.inr hg3) rfl fun w12 (st : St _ _ [_, _, (_, Cl [_, _] _), _, _] _) hF => id (Ib_n (Th_n (k9 _ _ (rg (Lm rfl (Ly rfl (y_add (c := s4 + 1) rfl rfl rfl (wf_i64 (by first | omega | (simp; done) | (simp; omega)))) ?_)))))))))
    refine Ls' rfl (Ls_nil (Th_n (?_)))
    exact ⟨fuel, [(1, _), (2, _), (3, _), (4, _)], Nat.lt_succ_self _, ⟨rfl, rfl, rfl, rfl, trivial⟩, (s4 + 1), (u2_0 ++ [put13_m (ix s.puts s4)]), Aa2, ca2, sp2, rfl, ⟨by rewrite [← hL1, to13_L1]; rewrite [iP hc1]; rfl, by first | omega | (simp; done) | (simp; omega)⟩, by first | omega | (simp; done) | (simp; omega), how5, hnew5, (st.pk [0, 1, 2, 3] (by decide)).pickK [0, 1], hF⟩
  refine Wp_exit (Th_e (Th_e (Ib_hit (Th_n (?_)))))
  exact hout1 _ [(1, _), (2, _), (3, _), (4, _)] _ ⟨rfl, rfl, rfl, rfl, trivial⟩ ⟨s4, u2_0, Au2_0, cu2_0, spu2_0, rfl, show _ = _ from by rewrite [← hL1, to13_L1]; rewrite [iN hc1]; rfl, by first | omega | (simp; done) | (simp; omega), howu2_0, newu2_0, (st.pk [0, 1, 2, 3] (by decide)).pickK [0, 1], hF⟩
end Go.Proofs.YtdckemiebnfjcaaGreatDoor

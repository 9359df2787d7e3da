/- Walks printed by gen2.py out of our own specifications: what the functions named below do. -/
import Derived.Test.YtmenpoicgoijcaaGreatSc
import Derived.Test.YtmenpoicgoijcaaGreatZ1
set_option linter.unusedSimpArgs false
set_option linter.unusedVariables false
set_option maxRecDepth 20000
namespace Go.Proofs.YtmenpoicgoijcaaGreat
open Go.RowKit
def r13get_c1 (s : MapM) (field : List UInt8) (s6 : Bool) (s8 : Int) (u1_0 : Int) (u1_1 : Int) (u1_2 : Int) (u1_3 : List UInt8) (u1_4 : Int) (u1_5 : Int) (u1_6 : Int) : Bool :=
  (if ((ix s.puts s8).field) = field then (if s6 = true then decide (0 ≤ (r9compare_m ((ix s.puts s8).atF) (⟨u1_5, u1_6⟩ : StampM))) else true) else false)
def r13get_L1 (s : MapM) (field : List UInt8) : Nat → Bool → Int → Int → Int → Int → (List UInt8) → Int → Int → Int → (Int × Bool) ⊕ (Bool × Int × Int × Int × Int × (List UInt8) × Int × Int × Int)
  | 0, s6, s8, u1_0, u1_1, u1_2, u1_3, u1_4, u1_5, u1_6 => .inr (s6, s8, u1_0, u1_1, u1_2, u1_3, u1_4, u1_5, u1_6)
  | fuel + 1, s6, s8, u1_0, u1_1, u1_2, u1_3, u1_4, u1_5, u1_6 =>
    if s8 < (s.puts.length : Int) then
      if (r13get_c1 s field s6 s8 u1_0 u1_1 u1_2 u1_3 u1_4 u1_5 u1_6) = true then
        r13get_L1 s field fuel true (s8 + 1) ((ix s.puts s8).tag.id.origin) ((ix s.puts s8).tag.id.seq) ((ix s.puts s8).tag.n) ((ix s.puts s8).field) ((ix s.puts s8).val) ((ix s.puts s8).atF.time) ((ix s.puts s8).atF.origin)
      else
        r13get_L1 s field fuel s6 (s8 + 1) u1_0 u1_1 u1_2 u1_3 u1_4 u1_5 u1_6
    else
      .inr (s6, s8, u1_0, u1_1, u1_2, u1_3, u1_4, u1_5, u1_6)
def r13get_m (s : MapM) (field : List UInt8) : Int × Bool :=
  if (r13check_m s) = 0 then
    match r13get_L1 s field (((s.puts.length : Int) - (0 : Int)).toNat + 1) false (0 : Int) (0 : Int) (0 : Int) (0 : Int) [] (0 : Int) (0 : Int) (0 : Int) with
    | .inl r => r
    | .inr (s6, s8, u1_0, u1_1, u1_2, u1_3, u1_4, u1_5, u1_6) =>
      (u1_4, s6)
  else
    (0, false)
theorem r13get_c1_iff (s : MapM) (field : List UInt8) (s6 : Bool) (s8 : Int) (u1_0 : Int) (u1_1 : Int) (u1_2 : Int) (u1_3 : List UInt8) (u1_4 : Int) (u1_5 : Int) (u1_6 : Int) : (r13get_c1 s field s6 s8 u1_0 u1_1 u1_2 u1_3 u1_4 u1_5 u1_6 = true) ↔ ((((ix s.puts s8).field) = field) ∧ (¬ (s6 = true) ∨ (0 ≤ (r9compare_m ((ix s.puts s8).atF) (⟨u1_5, u1_6⟩ : StampM))))) := by
  unfold r13get_c1; exact (ci2 (ci4 decide_eq_true_iff))
theorem r13get_ok (X : List Nat) (w : World) (hX : Lo X w) (s : MapM) (A2 : Option Addr) (C2 : Nat) (A1 : Option Addr) (C1 : Nat) (field : List UInt8) (z4 : Sld X w A2 s.puts.length C2 7 (s.puts.flatMap putMC)) (z3 : Sld X w A1 s.gone.length C1 3 (s.gone.flatMap tagMC)) :
    Fn Tryz.prog 122 [.agg #[.slice A2 s.puts.length C2, .slice A1 s.gone.length C1], sv field] w fun v w' => v = .tuple #[.int .i64 ((r13get_m s field).1), .bool ((r13get_m s field).2)] ∧ Fr [] w w' := by
  refine Fn_of 51 Ty.en_122 Tryz.func122 rfl rfl rfl ?_
  dsimp only [argEnv]
  have st := stn2 hX z4 z3
  have hF := Fr.refl ([]) w
  have z2 := (st.q 0 rfl).le
  have z1 := (st.q 1 rfl).le
  refine sq fun _ k1 => rg (La rfl (Sbx st hF rfl fun g1 w1 (st : St _ _ [_] _) hF hg1 => Ls' rfl (Ls' rfl (Ln k1 (sq fun _ k2 => sq fun _ k3 => rg (Ly rfl (yw 0 Ty.ag_35 st rfl) (La rfl (Scl st hF rfl (r13check_ok (keys (hOf st) ++ X) _ st.Lo s A2 C2 A1 C1 (st.q 0 rfl) (st.q 1 rfl)) fun w2 st hF => Ly rfl (yne rfl) (Ln k3 (cN rfl (fun hc1 => ?_) (fun hc1 => ?_)))))))))))
  · refine sq fun _ k4 => rg (Ls' rfl (Ls' rfl (Ln k4 (wR (Th_r (fR (Res2 rfl rfl rfl) ?_))))))
    unfold r13get_m; rewrite [iN hc1]
    exact ⟨rfl, hF⟩
  refine sk k2 (sq fun _ k5 => rg (Ls' rfl (Ln k5 (sq fun _ k6 => rg (La rfl (Sal Ty.zc_114 st hF rfl fun g2 w3 (st : St _ _ [_, _] _) hF hg2 => Ln k6 (sq fun _ k7 => sq fun _ k8 => rg (Ls' rfl (Ln k8 (Wp_block (lp (fun q E W => ∃ (s6 : Bool) (s8 : Int) (u1_0 : Int) (u1_1 : Int) (u1_2 : Int) (u1_3 : List UInt8) (u1_4 : Int) (u1_5 : Int) (u1_6 : Int), E = [(1, sv field), (2, .pointer (some ⟨g1, 0, none⟩)), (6, .bool s6), (7, .pointer (some ⟨g2, 0, none⟩)), (8, .int .i64 s8)] ∧ jq q (fun m => (r13get_L1 s field m s6 s8 u1_0 u1_1 u1_2 u1_3 u1_4 u1_5 u1_6 = r13get_L1 s field (((s.puts.length : Int) - (0 : Int)).toNat + 1) false (0 : Int) (0 : Int) (0 : Int) (0 : Int) [] (0 : Int) (0 : Int) (0 : Int) ∧ ((s.puts.length : Int) - s8).toNat < m)) (r13get_L1 s field (((s.puts.length : Int) - (0 : Int)).toNat + 1) false (0 : Int) (0 : Int) (0 : Int) (0 : Int) [] (0 : Int) (0 : Int) (0 : Int) = .inr (s6, s8, u1_0, u1_1, u1_2, u1_3, u1_4, u1_5, u1_6)) ∧ (0 ≤ s8) ∧ St X W [(some g1, Cl [.slice A2 s.puts.length C2, .slice A1 s.gone.length C1] 35), (some g2, Cl [.int .i64 u1_0, .int .u32 u1_1, .int .i64 u1_2, sv u1_3, .int .i64 u1_4, .int .u32 u1_5, .int .i64 u1_6] 114)] [kS A2 s.puts.length C2 7 (s.puts.flatMap putMC), kS A1 s.gone.length C1 3 (s.gone.flatMap tagMC)] ∧ Fr ([]) w W) (((s.puts.length : Int) - (0 : Int)).toNat + 1) [(1, _), (2, _), (6, _), (7, _), (8, _)] ⟨rfl, rfl, rfl, rfl, rfl, trivial⟩ ⟨_, _, _, _, _, _, _, _, _, rfl, ⟨rfl, Nat.lt_succ_self _⟩, by first | omega | (simp; done) | (simp; omega), st, hF⟩ k7 ?_ fun hout1 => ?_)))))))))))
  · rintro E w4 ⟨s6, s8, u1_0, u1_1, u1_2, u1_3, u1_4, u1_5, u1_6, rfl, hLk1, hinv, st, hF⟩
    unfold jq at hLk1; dsimp only at hLk1
    refine sq fun _ k9 => rg (Ly rfl (yf rfl Ty.fo_114_2) (Ly rfl (yl 1 Ty.pl_2 st rfl) (Lm rfl (Ls' rfl (Ls' rfl (Ln k9 (wR (fR (Res2 rfl rfl rfl) ?_))))))))
    unfold r13get_m; rewrite [iP hc1, hLk1]; (try dsimp only)
    exact ⟨rfl, hF⟩
  rintro m E w5 ⟨s6, s8, u1_0, u1_1, u1_2, u1_3, u1_4, u1_5, u1_6, rfl, ⟨hL1, hmu⟩, hinv, st, hF⟩
  obtain ⟨fuel, rfl⟩ : ∃ q, m = q + 1 := ⟨m - 1, by omega⟩
  refine sq fun _ k10 => sq fun _ k11 => rg (Lm rfl (Ly rfl (yf rfl Ty.fo_35_0) (Ly rfl (yl 0 Ty.pl_33 st rfl) (Ly rfl (yll rfl Tryz.underlying33) (Ly rfl (ylt rfl) (Ln k11 (cD rfl (fun hc2 => ?_) (fun hc2 => ?_))))))))
  · refine sk k10 (sq fun _ k12 => Wp_block (sq fun _ k13 => ?_))
    refine use_out k13 (fun E W => E = [(1, sv field), (2, .pointer (some ⟨g1, 0, none⟩)), (6, .bool s6), (7, .pointer (some ⟨g2, 0, none⟩)), (8, .int .i64 s8), (42, .bool (r13get_c1 s field s6 s8 u1_0 u1_1 u1_2 u1_3 u1_4 u1_5 u1_6))] ∧ St X W (hOf st) (kOf st) ∧ Fr ([]) w W) ?_ fun hout2 => ?_
    · rintro E w6 ⟨rfl, st, hF⟩
      have st : St X w6 [_, _] [_, _] := st
      refine cB rfl (fun hc3 => ?_) (fun hc3 => ?_)
      · have jhc3 := (r13get_c1_iff s field s6 s8 u1_0 u1_1 u1_2 u1_3 u1_4 u1_5 u1_6).1 hc3
        refine sq fun _ k14 => rg (Ly rfl (yf rfl Ty.fo_35_0) (Ly rfl (yl 0 Ty.pl_33 st rfl) (Lm rfl ?_)))
        obtain ⟨gi1, bi1, egi1⟩ := (st.k (i := 0) rfl).addr (fun _ => rfl) (by decide) (q := s8) (by first | omega | (simp; done) | (simp; omega)) (by first | omega | (simp; done) | (simp; omega))
        subst egi1
        refine Ly rfl (y_ixa (q := s8) rfl rfl rfl Ty.es_33 (by first | omega | (simp; done) | (simp; omega)) (by first | omega | (simp; done) | (simp; omega))) ?_
        refine Ly rfl (y_ldk (q := s8) rfl rfl Ty.ag_114 (fun _ e => e ▸ st.k (i := 0) rfl) (fun _ => rfl) (by first | omega | (simp; done) | (simp; omega)) (by first | omega | (simp; done) | (simp; omega))) ?_
        refine La rfl (Ssw 1 Ty.sz_114 st hF (.inr hg2) rfl fun w7 (st : St _ _ [_, _] _) hF => Ln k14 (rg (Ls' rfl (Ls_nil (Ib_n (Th_n (k12 _ _ (rg (Lm rfl (Ly rfl (y_add (c := s8 + 1) rfl rfl rfl (wf_i64 (by first | omega | (simp; done) | (simp; omega)))) ?_))))))))))
        refine Ls' rfl (Ls_nil (Th_n (?_)))
        exact ⟨fuel, [(1, _), (2, _), (6, _), (7, _), (8, _)], Nat.lt_succ_self _, ⟨rfl, rfl, rfl, rfl, rfl, trivial⟩, true, (s8 + 1), ((ix s.puts s8).tag.id.origin), ((ix s.puts s8).tag.id.seq), ((ix s.puts s8).tag.n), ((ix s.puts s8).field), ((ix s.puts s8).val), ((ix s.puts s8).atF.time), ((ix s.puts s8).atF.origin), rfl, ⟨by rewrite [← hL1, r13get_L1]; rewrite [iP hc2, iP hc3]; rfl, by first | omega | (simp; done) | (simp; omega)⟩, by first | omega | (simp; done) | (simp; omega), (st.pk [0, 1] (by decide)).pickK [0, 1], hF⟩
      have jhc3 := mt (r13get_c1_iff s field s6 s8 u1_0 u1_1 u1_2 u1_3 u1_4 u1_5 u1_6).2 hc3
      refine Wp_skip (Ib_n (Th_n (k12 _ _ (rg (Lm rfl (Ly rfl (y_add (c := s8 + 1) rfl rfl rfl (wf_i64 (by first | omega | (simp; done) | (simp; omega)))) ?_))))))
      refine Ls' rfl (Ls_nil (Th_n (?_)))
      exact ⟨fuel, [(1, _), (2, _), (6, _), (7, _), (8, _)], Nat.lt_succ_self _, ⟨rfl, rfl, rfl, rfl, rfl, trivial⟩, s6, (s8 + 1), u1_0, u1_1, u1_2, u1_3, u1_4, u1_5, u1_6, rfl, ⟨by rewrite [← hL1, r13get_L1]; rewrite [iP hc2, iN hc3]; rfl, by first | omega | (simp; done) | (simp; omega)⟩, by first | omega | (simp; done) | (simp; omega), (st.pk [0, 1] (by decide)).pickK [0, 1], hF⟩
    refine Wp_plan (fun W => St X W (pickL (hOf st) [0, 1]) (kOf st)) [(true, 0), (true, 1), (true, 2), (true, 3), (true, 4), (true, 5), (true, 6), (true, 7), (true, 8), (true, 9), (true, 10), (true, 11), (true, 12), (true, 13), (true, 14), (true, 15), (true, 16), (true, 17), (true, 18), (true, 19), (false, 20), (true, 21), (true, 22), (true, 23)] Ty.mx_0 (by kernel_rfl) (by kernel_rfl) rfl ((st.pk [0, 1] (by decide)).drew) ?_
    have st := st.drew
    have hF := hF.step0 (Fr.drew _)
    refine Py rfl (yf rfl Ty.fo_35_0) (Py rfl (y_load (i := 0) rfl rfl Ty.pl_33 (fun _ h => h.hp) rfl rfl) (Pm rfl ?_))
    obtain ⟨gi2, bi2, egi2⟩ := (st.k (i := 0) rfl).addr (fun _ => rfl) (by decide) (q := s8) (by first | omega | (simp; done) | (simp; omega)) (by first | omega | (simp; done) | (simp; omega))
    subst egi2
    refine Py rfl (y_ixa (q := s8) rfl rfl rfl Ty.es_33 (by first | omega | (simp; done) | (simp; omega)) (by first | omega | (simp; done) | (simp; omega))) ?_
    refine Py rfl (yf rfl Ty.fo_114_1) (Py rfl (y_ldk1 (q := s8) 3 rfl rfl Ty.pl_9 (fun _ h => h.k (i := 0) rfl) (fun _ => rfl) (by first | omega | (simp; done) | (simp; omega)) (by first | omega | (simp; done) | (simp; omega)) rfl) ?_)
    refine Pm rfl (Py rfl (y_eqs rfl rfl rfl) (Pm rfl (Pl_bool 27 rfl (fun hc4 => ?_) (fun hc4 => ?_))))
    · have hc4 := eT hc4
      refine Pl_y rfl (wtdT rfl rfl rfl) rfl rfl (y_move rfl rfl) (Pl_y rfl (wtdT rfl rfl rfl) rfl rfl (yn rfl) (Pl_y rfl (wtdT rfl rfl rfl) rfl rfl (y_move rfl rfl) (Pl_bool 30 rfl (fun hc5 => ?_) (fun hc5 => ?_))))
      · have hc5 := bF (nT hc5)
        refine Pl_s rfl (wtdF rfl rfl rfl) rfl rfl (Pl_s rfl (wtdF rfl rfl rfl) rfl rfl (Pl_s rfl (wtdF rfl rfl rfl) rfl rfl (Pl_s rfl (wtdF rfl rfl rfl) rfl rfl (Pl_s rfl (wtdF rfl rfl rfl) rfl rfl (Pl_s rfl (wtdF rfl rfl rfl) rfl rfl (Pl_s rfl (wtdF rfl rfl rfl) rfl rfl (Pl_s rfl (wtdF rfl rfl rfl) rfl rfl (Pl_s rfl (wtdF rfl rfl rfl) rfl rfl (Pl_s rfl (wtdF rfl rfl rfl) rfl rfl (Pl_y rfl (wtdT rfl rfl rfl) rfl rfl (yT rfl) (Py rfl (yT rfl) (Pl_nil (Th_n (?_))))))))))))))
        exact hout2 _ [(1, _), (2, _), (6, _), (7, _), (8, _), (42, _)] _ ⟨rfl, rfl, rfl, rfl, rfl, rfl, trivial⟩ ⟨by unfold r13get_c1; rewrite [iP hc4, iN hc5]; rfl, (st.pk [0, 1] (by decide)).pickK [0, 1], hF⟩
      have hc5 := (nF hc5)
      refine Pl_y rfl (wtdT rfl rfl rfl) rfl rfl (yf rfl Ty.fo_35_0) (Pl_y rfl (wtdT rfl rfl rfl) rfl rfl (y_load (i := 0) rfl rfl Ty.pl_33 (fun _ h => h.hp) rfl rfl) (Pl_y rfl (wtdT rfl rfl rfl) rfl rfl (y_move rfl rfl) (Pl_y rfl (wtdT rfl rfl rfl) rfl rfl (y_ixa (q := s8) rfl rfl rfl Ty.es_33 (by first | omega | (simp; done) | (simp; omega)) (by first | omega | (simp; done) | (simp; omega))) ?_)))
      refine Pl_y rfl (wtdT rfl rfl rfl) rfl rfl (yf rfl Ty.fo_114_3) (Pl_y rfl (wtdT rfl rfl rfl) rfl rfl (y_ldkm (q := s8) 5 rfl rfl Ty.ag_24 (fun _ h => h.k (i := 0) rfl) (fun _ => rfl) (by first | omega | (simp; done) | (simp; omega)) (by first | omega | (simp; done) | (simp; omega)) rfl rfl) ?_)
      refine Pl_y rfl (wtdT rfl rfl rfl) rfl rfl (yf rfl Ty.fo_114_3) (Pl_y rfl (wtdT rfl rfl rfl) rfl rfl (y_loadm (i := 1) rfl rfl Ty.ag_24 (fun _ h => h.hp) rfl rfl rfl) (Pl_a rfl (wtdT rfl rfl rfl) (by rfl) ?_))
      refine Scl st hF rfl (r9compare_ok _ ((ix s.puts s8).atF) (⟨u1_5, u1_6⟩ : StampM)) fun w8 st hF => ?_
      refine ⟨(st.pk [0, 1] (by decide)).tK 2, ?_⟩
      refine Pl_y rfl (wtdT rfl rfl rfl) rfl rfl (yge rfl) (Pl_y rfl (wtdT rfl rfl rfl) rfl rfl (yF rfl) (Py rfl (yT rfl) (Pl_nil (Th_n (?_)))))
      exact hout2 _ [(1, _), (2, _), (6, _), (7, _), (8, _), (42, _)] _ ⟨rfl, rfl, rfl, rfl, rfl, rfl, trivial⟩ ⟨by unfold r13get_c1; rewrite [iP hc4, iP hc5]; rfl, (st.pk [0, 1] (by decide)).pickK [0, 1], hF⟩
    have hc4 := eF hc4
    refine Pl_s rfl (wtdF rfl rfl rfl) rfl rfl (Pl_s rfl (wtdF rfl rfl rfl) rfl rfl (Pl_s rfl (wtdF rfl rfl rfl) rfl rfl (Pl_s rfl (wtdU rfl rfl rfl) rfl rfl (Pl_s rfl (wtdU rfl rfl rfl) rfl rfl (Pl_s rfl (wtdU rfl rfl rfl) rfl rfl (Pl_s rfl (wtdU rfl rfl rfl) rfl rfl (Pl_s rfl (wtdU rfl rfl rfl) rfl rfl (Pl_s rfl (wtdU rfl rfl rfl) rfl rfl (Pl_s rfl (wtdU rfl rfl rfl) rfl rfl (Pl_s rfl (wtdU rfl rfl rfl) rfl rfl (Pl_s rfl (wtdU rfl rfl rfl) rfl rfl (Pl_s rfl (wtdU rfl rfl rfl) rfl rfl (Pl_s rfl (wtdF rfl rfl rfl) rfl rfl (Py rfl (yF rfl) (Pl_nil (Th_n (?_)))))))))))))))))
    exact hout2 _ [(1, _), (2, _), (6, _), (7, _), (8, _), (42, _)] _ ⟨rfl, rfl, rfl, rfl, rfl, rfl, trivial⟩ ⟨by unfold r13get_c1; rewrite [iN hc4]; rfl, (st.pk [0, 1] (by decide)).pickK [0, 1], hF⟩
  refine Wp_exit (Th_e (Th_e (Ib_hit (Th_n (?_)))))
  exact hout1 _ [(1, _), (2, _), (6, _), (7, _), (8, _)] _ ⟨rfl, rfl, rfl, rfl, rfl, trivial⟩ ⟨s6, s8, u1_0, u1_1, u1_2, u1_3, u1_4, u1_5, u1_6, rfl, show _ = _ from by rewrite [← hL1, r13get_L1]; rewrite [iN hc2]; rfl, by first | omega | (simp; done) | (simp; omega), (st.pk [0, 1] (by decide)).pickK [0, 1], hF⟩
structure ItemM where
  field : List UInt8
  val : Int
instance : Inhabited ItemM := ⟨⟨default, default⟩⟩
instance : DecidableEq ItemM := fun a b => decidable_of_iff (a.field = b.field ∧ a.val = b.val) (by cases a; cases b; simp)
def itemMC (x : ItemM) : List Value := [sv x.field, .int .i64 x.val]
theorem itemMC_1 (x : ItemM) : ∀ v ∈ itemMC x, v.oneCell' = true := all_one rfl
def r13items_c1 (s : MapM) (s3 : List ItemM) (s4 : Int) (s6 : Int) : Bool :=
  (if s6 < (s3.length : Int) then ((ix s3 s6).field) == ((ix s.puts s4).field) else false)
def r13items_c2 (s : MapM) (s3 : List ItemM) (s4 : Int) (s6 : Int) : Bool :=
  (if s6 < (s3.length : Int) then decide (((ix s3 s6).field) < ((ix s.puts s4).field)) else false)
def r13items_L2 (s : MapM) (s3 : List ItemM) (s4 : Int) : Nat → Int → ((List ItemM)) ⊕ (Int)
  | 0, s6 => .inr (s6)
  | fuel + 1, s6 =>
    if (r13items_c2 s s3 s4 s6) = true then
      r13items_L2 s s3 s4 fuel (s6 + 1)
    else
      .inr (s6)
def r13items_L1 (s : MapM) : Nat → (List ItemM) → Int → ((List ItemM)) ⊕ ((List ItemM) × Int)
  | 0, s3, s4 => .inr (s3, s4)
  | fuel + 1, s3, s4 =>
    if s4 < (s.puts.length : Int) then
      match r13items_L2 s s3 s4 (((s3.length : Int) - (0 : Int)).toNat + 1) (0 : Int) with
      | .inl r => .inl r
      | .inr (s6) =>
        if (r13items_c1 s s3 s4 s6) = true then
          r13items_L1 s fuel s3 (s4 + 1)
        else
          r13items_L1 s fuel (((([] : List ItemM) ++ (s3.take s6.toNat)) ++ [(⟨(ix s.puts s4).field, (r13get_m s ((ix s.puts s4).field)).1⟩ : ItemM)]) ++ (s3.drop s6.toNat)) (s4 + 1)
    else
      .inr (s3, s4)
def r13items_m (s : MapM) : (List ItemM) :=
  if (r13check_m s) = 0 then
    match r13items_L1 s (((s.puts.length : Int) - (0 : Int)).toNat + 1) ([] : List ItemM) (0 : Int) with
    | .inl r => r
    | .inr (s3, s4) =>
      s3
  else
    ([] : List ItemM)
theorem r13items_c1_iff (s : MapM) (s3 : List ItemM) (s4 : Int) (s6 : Int) : (r13items_c1 s s3 s4 s6 = true) ↔ ((s6 < (s3.length : Int)) ∧ (((ix s3 s6).field) = ((ix s.puts s4).field))) := by
  unfold r13items_c1; exact (ci2 beq_iff_eq)
theorem r13items_c2_iff (s : MapM) (s3 : List ItemM) (s4 : Int) (s6 : Int) : (r13items_c2 s s3 s4 s6 = true) ↔ ((s6 < (s3.length : Int)) ∧ (((ix s3 s6).field) < ((ix s.puts s4).field))) := by
  unfold r13items_c2; exact (ci2 decide_eq_true_iff)
theorem r13items_ok (X : List Nat) (w : World) (hX : Lo X w) (s : MapM) (A2 : Option Addr) (C2 : Nat) (A1 : Option Addr) (C1 : Nat) (z4 : Sld X w A2 s.puts.length C2 7 (s.puts.flatMap putMC)) (z3 : Sld X w A1 s.gone.length C1 3 (s.gone.flatMap tagMC)) (h1 : s.puts.length ≤ 1000000) (h2 : s.gone.length ≤ 1000000) :
    Fn Tryz.prog 56 [.agg #[.slice A2 s.puts.length C2, .slice A1 s.gone.length C1]] w fun v w' => ∃ (Ar : Option Addr) (cr : Nat), v = .slice Ar (r13items_m s).length cr ∧ Sld X w' Ar (r13items_m s).length cr 2 ((r13items_m s).flatMap itemMC) ∧ Fr [] w w' := by
  refine Fn_of 77 Ty.en_56 Tryz.func56 rfl rfl rfl ?_
  dsimp only [argEnv]
  have st := stn2 hX z4 z3
  have hF := Fr.refl ([]) w
  refine sq fun _ k1 => rg (La rfl (Sbx st hF rfl fun g1 w1 (st : St _ _ [_] _) hF hg1 => Ls' rfl (Ln k1 (sq fun _ k2 => sq fun _ k3 => rg (Ly rfl (yw 0 Ty.ag_35 st rfl) (La rfl (Scl st hF rfl (r13check_ok (keys (hOf st) ++ X) _ st.Lo s A2 C2 A1 C1 (st.q 0 rfl) (st.q 1 rfl)) fun w2 st hF => Ly rfl (yne rfl) (Ln k3 (cN rfl (fun hc1 => ?_) (fun hc1 => ?_))))))))))
  · refine sq fun _ k4 => rg (Ls' rfl (Ln k4 ?_))
    have st := st.aN 2
    refine wR (Th_r (fR (Res1 rfl rfl) ?_))
    unfold r13items_m; rewrite [iN hc1]
    exact ⟨_, _, rfl, st.ot 2 rfl, hF⟩
  refine sk k2 (sq fun _ k5 => rg (Ls' rfl (Ln k5 (sq fun _ k6 => sq fun _ k7 => rg (Ls' rfl (Ln k7 (Wp_block ?_)))))))
  have st := st.aN 2
  have st := st.addK (kS none ([] : List ItemM).length 0 2 (([] : List ItemM).flatMap itemMC)) (st.k (i := 2) rfl)
  have st : St X _ [_] [_, _, _, _] := st
  refine lp (fun q E W => ∃ (s3 : List ItemM) (s4 : Int) (As3 : Option Addr) (cs3 : Nat), E = [(1, .pointer (some ⟨g1, 0, none⟩)), (3, .slice As3 s3.length cs3), (4, .int .i64 s4)] ∧ jq q (fun m => (r13items_L1 s m s3 s4 = r13items_L1 s (((s.puts.length : Int) - (0 : Int)).toNat + 1) ([] : List ItemM) (0 : Int) ∧ ((s.puts.length : Int) - s4).toNat < m)) (r13items_L1 s (((s.puts.length : Int) - (0 : Int)).toNat + 1) ([] : List ItemM) (0 : Int) = .inr (s3, s4)) ∧ (0 ≤ s4 ∧ 0 ≤ s4 ∧ s4 ≤ s.puts.length ∧ (s3.length : Int) ≤ s4) ∧ St X W [(some g1, Cl [.slice A2 s.puts.length C2, .slice A1 s.gone.length C1] 35)] [kS A2 s.puts.length C2 7 (s.puts.flatMap putMC), kS A1 s.gone.length C1 3 (s.gone.flatMap tagMC), kS none ([] : List ItemM).length 0 2 (([] : List ItemM).flatMap itemMC), kS As3 s3.length cs3 2 (s3.flatMap itemMC)] ∧ Fr ([]) w W) (((s.puts.length : Int) - (0 : Int)).toNat + 1) [(1, _), (3, _), (4, _)] ⟨rfl, rfl, rfl, trivial⟩ ⟨_, _, _, _, rfl, ⟨rfl, Nat.lt_succ_self _⟩, by first | omega | (simp; done) | (simp; omega), st, hF⟩ k6 ?_ fun hout1 => ?_
  · rintro E w3 ⟨s3, s4, As3, cs3, rfl, hLk1, hinv, st, hF⟩
    unfold jq at hLk1; dsimp only at hLk1
    refine sq fun _ k8 => rg (Lm rfl (Ls' rfl (Ln k8 (wR (fR (Res1 rfl rfl) ?_)))))
    unfold r13items_m; rewrite [iP hc1, hLk1]; (try dsimp only)
    exact ⟨_, _, rfl, st.ot 3 rfl, hF⟩
  rintro m E w4 ⟨s3, s4, As3, cs3, rfl, ⟨hL1, hmu⟩, hinv, st, hF⟩
  obtain ⟨fuel, rfl⟩ : ∃ q, m = q + 1 := ⟨m - 1, by omega⟩
  refine sq fun _ k9 => sq fun _ k10 => rg (Lm rfl (Ly rfl (yf rfl Ty.fo_35_0) (Ly rfl (yl 0 Ty.pl_33 st rfl) (Ly rfl (yll rfl Tryz.underlying33) (Ly rfl (ylt rfl) (Ln k10 (cD rfl (fun hc2 => ?_) (fun hc2 => ?_))))))))
  · refine sk k9 (sq fun _ k11 => Wp_block (sq fun _ k12 => rg (Ly rfl (yf rfl Ty.fo_35_0) (Ly rfl (yl 0 Ty.pl_33 st rfl) (Lm rfl ?_)))))
    obtain ⟨gi1, bi1, egi1⟩ := (st.k (i := 0) rfl).addr (fun _ => rfl) (by decide) (q := s4) (by omega) (by omega)
    subst egi1
    refine Ly rfl (y_ixa (q := s4) rfl rfl rfl Ty.es_33 (by omega) (by omega)) ?_
    refine Ly rfl (yf rfl Ty.fo_114_1) (Ly rfl (y_ldk1 (q := s4) 3 rfl rfl Ty.pl_9 (fun _ e => e ▸ st.k (i := 0) rfl) (fun _ => rfl) (by omega) (by omega) rfl) ?_)
    refine Ls' rfl (Ln k12 (sq fun _ k13 => rg (Ls' rfl (Ln k13 (sq fun _ k14 => Wp_block (lp (fun q E W => ∃ (s6 : Int), E = [(1, .pointer (some ⟨g1, 0, none⟩)), (3, .slice As3 s3.length cs3), (4, .int .i64 s4), (5, sv ((ix s.puts s4).field)), (6, .int .i64 s6)] ∧ jq q (fun m => (r13items_L2 s s3 s4 m s6 = r13items_L2 s s3 s4 (((s3.length : Int) - (0 : Int)).toNat + 1) (0 : Int) ∧ ((s3.length : Int) - s6).toNat < m)) (r13items_L2 s s3 s4 (((s3.length : Int) - (0 : Int)).toNat + 1) (0 : Int) = .inr (s6)) ∧ (0 ≤ s6 ∧ 0 ≤ s6 ∧ s6 ≤ s3.length) ∧ St X W [(some g1, Cl [.slice (some ⟨gi1, bi1, none⟩) s.puts.length C2, .slice A1 s.gone.length C1] 35)] [kS (some ⟨gi1, bi1, none⟩) s.puts.length C2 7 (s.puts.flatMap putMC), kS A1 s.gone.length C1 3 (s.gone.flatMap tagMC), kS none ([] : List ItemM).length 0 2 (([] : List ItemM).flatMap itemMC), kS As3 s3.length cs3 2 (s3.flatMap itemMC)] ∧ Fr ([]) w W) (((s3.length : Int) - (0 : Int)).toNat + 1) [(1, _), (3, _), (4, _), (5, _), (6, _)] ⟨rfl, rfl, rfl, rfl, rfl, trivial⟩ ⟨_, rfl, ⟨rfl, Nat.lt_succ_self _⟩, by omega, st, hF⟩ k14 ?_ fun hout2 => ?_))))))
    · rintro E w5 ⟨s6, rfl, hLk2, hinv, st, hF⟩
      unfold jq at hLk2; dsimp only at hLk2
      refine sq fun _ k15 => sq fun _ k16 => ?_
      refine use_out k16 (fun E W => E = [(1, .pointer (some ⟨g1, 0, none⟩)), (3, .slice As3 s3.length cs3), (4, .int .i64 s4), (5, sv ((ix s.puts s4).field)), (6, .int .i64 s6), (53, .bool (r13items_c1 s s3 s4 s6))] ∧ St X W (hOf st) (kOf st) ∧ Fr ([]) w W) ?_ fun hout3 => ?_
      · rintro E w6 ⟨rfl, st, hF⟩
        have st : St X w6 [_] [_, _, _, _] := st
        refine cB rfl (fun hc3 => ?_) (fun hc3 => ?_)
        · have jhc3 := (r13items_c1_iff s s3 s4 s6).1 hc3
          refine Wp_exit (Th_e (Ib_hit (Th_n (k11 _ _ (rg (Lm rfl (Ly rfl (y_add (c := s4 + 1) rfl rfl rfl (wf_i64 (by omega))) ?_)))))))
          refine Ls' rfl (Ls_nil (Th_n (?_)))
          exact ⟨fuel, [(1, _), (3, _), (4, _)], Nat.lt_succ_self _, ⟨rfl, rfl, rfl, trivial⟩, s3, (s4 + 1), As3, cs3, rfl, ⟨by rewrite [← hL1, r13items_L1]; rewrite [iP hc2, hLk2]; (try dsimp only); all_goals rewrite [iP hc3]; all_goals rfl, by omega⟩, by omega, (st.pk [0] (by decide)).pickK [0, 1, 2, 3], hF⟩
        have jhc3 := mt (r13items_c1_iff s s3 s4 s6).2 hc3
        refine sk k15 (sq fun _ k17 => rg (Ly rfl (yw 0 Ty.ag_35 st rfl) (Lm rfl (La rfl (Scl st hF rfl (r13get_ok (keys (hOf st) ++ X) _ st.Lo s (some ⟨gi1, bi1, none⟩) C2 A1 C1 ((ix s.puts s4).field) (st.q 0 rfl) (st.q 1 rfl)) fun w7 st hF => Lm rfl (Lx rfl (Lx rfl (Ls' rfl (Ls' rfl (Ln k17 (sq fun _ k18 => rg (La rfl (Sb0 (enc := itemMC) Ty.es_70 Ty.zc_129 st hF rfl fun g2 w8 how1 hnew1 (st : St _ _ [_, _] _) hF => Lm rfl (Lm rfl ?_))))))))))))))
        obtain ⟨Ak1, ck1, hk1, hk1y⟩ := cutK0 (enc := itemMC) (m := 2) (l := s3) (q := s6) (fun _ => rfl) (by decide) (st.k (i := 3) rfl) (by omega) (by omega)
        refine Ly rfl (hk1y rfl rfl Ty.es_70 rfl rfl) ?_
        have st := st.addK (kS Ak1 (s3.take s6.toNat).length ck1 2 ((s3.take s6.toNat).flatMap itemMC)) hk1
        have st : St X _ [_, _] [_, _, _, _, _] := st
        refine La rfl (Sap (enc := itemMC) ([] : List ItemM) (s3.take s6.toNat) 1 Ty.es_70 Ty.zc_129 Ty.by_129 (fun _ => rfl) itemMC_1 how1 hnew1 st hF (st.k (i := 4) rfl).rd.src (fun h => by have := (st.k (i := 4) rfl).rd; exact rd_none this h (st.k (i := 4) rfl).len (by decide)) rfl (by first | omega | (simp; done) | (simp; omega)) (by first | omega | (simp; done) | (simp; omega)) fun Aa1 ca1 sp1 w9 how2 hnew2 (st : St _ _ [_, _] _) hF => ?_)
        refine Ls' rfl (Ln k18 (sq fun _ k19 => rg (Lm rfl (Lm rfl (Lm rfl (Ly rfl (y_build (cells := [_, _]) rfl rfl Ty.zc_129 Ty.ps_129 rfl) (La rfl (Sb (enc := itemMC) (⟨(ix s.puts s4).field, (r13get_m s ((ix s.puts s4).field)).1⟩ : ItemM) Ty.es_70 Ty.zc_129 (fun _ => rfl) st hF rfl fun g3 w10 how3 hnew3 (st : St _ _ [_, _, _] _) hF => La rfl (Sap (enc := itemMC) (([] : List ItemM) ++ (s3.take s6.toNat)) [(⟨(ix s.puts s4).field, (r13get_m s ((ix s.puts s4).field)).1⟩ : ItemM)] 1 Ty.es_70 Ty.zc_129 Ty.by_129 (fun _ => rfl) itemMC_1 how2 hnew2 st hF (own_src (i := 2) st.hp rfl how3) (own_none how3) rfl (by first | omega | (simp; done) | (simp; omega)) (by first | omega | (simp; done) | (simp; omega)) fun Aa2 ca2 sp2 w11 how4 hnew4 (st : St _ _ [_, _, _] _) hF => ?_)))))))))
        refine Ls' rfl (Ln k19 (rg (Lm rfl (Lm rfl (Lm rfl ?_)))))
        obtain ⟨Ak2, ck2, hk2, hk2y⟩ := cutKe (enc := itemMC) (m := 2) (l := s3) (p := s6) (fun _ => rfl) (by decide) (st.k (i := 3) rfl) (by omega) (by omega)
        refine Ly rfl (hk2y rfl rfl Ty.es_70 rfl rfl) ?_
        have st := st.addK (kS Ak2 (s3.drop s6.toNat).length ck2 2 ((s3.drop s6.toNat).flatMap itemMC)) hk2
        have st : St X _ [_, _, _] [_, _, _, _, _, _] := st
        refine La rfl (Sap (enc := itemMC) ((([] : List ItemM) ++ (s3.take s6.toNat)) ++ [(⟨(ix s.puts s4).field, (r13get_m s ((ix s.puts s4).field)).1⟩ : ItemM)]) (s3.drop s6.toNat) 1 Ty.es_70 Ty.zc_129 Ty.by_129 (fun _ => rfl) itemMC_1 how4 hnew4 st hF (st.k (i := 5) rfl).rd.src (fun h => by have := (st.k (i := 5) rfl).rd; exact rd_none this h (st.k (i := 5) rfl).len (by decide)) rfl (by first | omega | (simp; done) | (simp; omega)) (by first | omega | (simp; done) | (simp; omega)) fun Aa3 ca3 sp3 w12 how5 hnew5 (st : St _ _ [_, _, _] _) hF => ?_)
        refine Ls' rfl (Ls_nil (Ib_n (Th_n (k11 _ _ (rg (Lm rfl (Ly rfl (y_add (c := s4 + 1) rfl rfl rfl (wf_i64 (by omega))) ?_)))))))
        refine Ls' rfl (Ls_nil (Th_n (?_)))
        have st : St X w12 [_, _] [_, _, _, _, _, _, _] := st.freeze (i := 1) [0, 2] (by decide) rfl how5 (by decide)
        exact ⟨fuel, [(1, _), (3, _), (4, _)], Nat.lt_succ_self _, ⟨rfl, rfl, rfl, trivial⟩, (((([] : List ItemM) ++ (s3.take s6.toNat)) ++ [(⟨(ix s.puts s4).field, (r13get_m s ((ix s.puts s4).field)).1⟩ : ItemM)]) ++ (s3.drop s6.toNat)), (s4 + 1), Aa3, ca3, rfl, ⟨by rewrite [← hL1, r13items_L1]; rewrite [iP hc2, hLk2]; (try dsimp only); all_goals rewrite [iN hc3]; all_goals rfl, by omega⟩, by first | omega | (simp; done) | (simp; omega), (st.pk [0] (by decide)).pickK [0, 1, 2, 6], hF⟩
      refine rg (Lm rfl (Lm rfl (Ly rfl (yll rfl Tryz.underlying70) (Ly rfl (ylt rfl) (Lm rfl (bD (s := 45) rfl (fun hc4 => ?_) (fun hc4 => ?_)))))))
      · refine LyT rfl (y_move rfl rfl) (LyT rfl (y_move rfl rfl) ?_)
        obtain ⟨gi2, bi2, egi2⟩ := (st.k (i := 3) rfl).addr (fun _ => rfl) (by decide) (q := s6) (by omega) (by omega)
        subst egi2
        refine LyT rfl (y_ixa (q := s6) rfl rfl rfl Ty.es_70 (by omega) (by omega)) ?_
        refine LyT rfl (yf rfl Ty.fo_129_0) (LyT rfl (y_ldk1 (q := s6) 0 rfl rfl Ty.pl_9 (fun _ e => e ▸ st.k (i := 3) rfl) (fun _ => rfl) (by omega) (by omega) rfl) ?_)
        refine LyT rfl (y_move rfl rfl) (LyT rfl (y_eqs rfl rfl rfl) (Ly rfl (yT rfl) (Ls_nil (Th_n (?_)))))
        exact hout3 _ [(1, _), (3, _), (4, _), (5, _), (6, _), (53, _)] _ ⟨rfl, rfl, rfl, rfl, rfl, rfl, trivial⟩ ⟨by unfold r13items_c1; rewrite [iP hc4]; rfl, (st.pk [0] (by decide)).pickK [0, 1, 2, 3], hF⟩
      refine LsF rfl (LsF rfl (LsF rfl (LsF rfl (LsF rfl (LsF rfl (LsF rfl (Ly rfl (yF rfl) (Ls_nil (Th_n (?_))))))))))
      exact hout3 _ [(1, _), (3, _), (4, _), (5, _), (6, _), (53, _)] _ ⟨rfl, rfl, rfl, rfl, rfl, rfl, trivial⟩ ⟨by unfold r13items_c1; rewrite [iN hc4]; rfl, (st.pk [0] (by decide)).pickK [0, 1, 2, 3], hF⟩
    rintro m E w13 ⟨s6, rfl, ⟨hL2, hmu⟩, hinv, st, hF⟩
    obtain ⟨fuel, rfl⟩ : ∃ q, m = q + 1 := ⟨m - 1, by omega⟩
    refine sq fun _ k20 => sq fun _ k21 => ?_
    refine use_out k21 (fun E W => E = [(1, .pointer (some ⟨g1, 0, none⟩)), (3, .slice As3 s3.length cs3), (4, .int .i64 s4), (5, sv ((ix s.puts s4).field)), (6, .int .i64 s6), (38, .bool (r13items_c2 s s3 s4 s6))] ∧ St X W (hOf st) (kOf st) ∧ Fr ([]) w W) ?_ fun hout4 => ?_
    · rintro E w14 ⟨rfl, st, hF⟩
      have st : St X w14 [_] [_, _, _, _] := st
      refine cB rfl (fun hc5 => ?_) (fun hc5 => ?_)
      · have jhc5 := (r13items_c2_iff s s3 s4 s6).1 hc5
        refine sk k20 (Wp_block (rg (Lm rfl (Ly rfl (y_add (c := s6 + 1) rfl rfl rfl (wf_i64 (by omega))) ?_))))
        refine Ls' rfl (Ls_nil (Ib_n (Th_n (?_))))
        exact ⟨fuel, [(1, _), (3, _), (4, _), (5, _), (6, _)], Nat.lt_succ_self _, ⟨rfl, rfl, rfl, rfl, rfl, trivial⟩, (s6 + 1), rfl, ⟨by rewrite [← hL2, r13items_L2]; rewrite [iP hc5]; rfl, by omega⟩, by omega, (st.pk [0] (by decide)).pickK [0, 1, 2, 3], hF⟩
      have jhc5 := mt (r13items_c2_iff s s3 s4 s6).2 hc5
      refine Wp_exit (Th_e (Th_e (Ib_hit (Th_n (?_)))))
      exact hout2 _ [(1, _), (3, _), (4, _), (5, _), (6, _)] _ ⟨rfl, rfl, rfl, rfl, rfl, trivial⟩ ⟨s6, rfl, show _ = _ from by rewrite [← hL2, r13items_L2]; rewrite [iN hc5]; rfl, by omega, (st.pk [0] (by decide)).pickK [0, 1, 2, 3], hF⟩
    refine rg (Lm rfl (Lm rfl (Ly rfl (yll rfl Tryz.underlying70) (Ly rfl (ylt rfl) (Lm rfl (bD (s := 30) rfl (fun hc6 => ?_) (fun hc6 => ?_)))))))
    · refine LyT rfl (y_move rfl rfl) (LyT rfl (y_move rfl rfl) ?_)
      obtain ⟨gi3, bi3, egi3⟩ := (st.k (i := 3) rfl).addr (fun _ => rfl) (by decide) (q := s6) (by omega) (by omega)
      subst egi3
      refine LyT rfl (y_ixa (q := s6) rfl rfl rfl Ty.es_70 (by omega) (by omega)) ?_
      refine LyT rfl (yf rfl Ty.fo_129_0) (LyT rfl (y_ldk1 (q := s6) 0 rfl rfl Ty.pl_9 (fun _ e => e ▸ st.k (i := 3) rfl) (fun _ => rfl) (by omega) (by omega) rfl) ?_)
      refine LyT rfl (y_move rfl rfl) (LyT rfl (y_lts rfl rfl rfl) (Ly rfl (yT rfl) (Ls_nil (Th_n (?_)))))
      exact hout4 _ [(1, _), (3, _), (4, _), (5, _), (6, _), (38, _)] _ ⟨rfl, rfl, rfl, rfl, rfl, rfl, trivial⟩ ⟨by unfold r13items_c2; rewrite [iP hc6]; rfl, (st.pk [0] (by decide)).pickK [0, 1, 2, 3], hF⟩
    refine LsF rfl (LsF rfl (LsF rfl (LsF rfl (LsF rfl (LsF rfl (LsF rfl (Ly rfl (yF rfl) (Ls_nil (Th_n (?_))))))))))
    exact hout4 _ [(1, _), (3, _), (4, _), (5, _), (6, _), (38, _)] _ ⟨rfl, rfl, rfl, rfl, rfl, rfl, trivial⟩ ⟨by unfold r13items_c2; rewrite [iN hc6]; rfl, (st.pk [0] (by decide)).pickK [0, 1, 2, 3], hF⟩
  refine Wp_exit (Th_e (Th_e (Ib_hit (Th_n (?_)))))
  exact hout1 _ [(1, _), (3, _), (4, _)] _ ⟨rfl, rfl, rfl, trivial⟩ ⟨s3, s4, As3, cs3, rfl, show _ = _ from by rewrite [← hL1, r13items_L1]; rewrite [iN hc2]; rfl, by omega, (st.pk [0] (by decide)).pickK [0, 1, 2, 3], hF⟩
def r13compact_L1 (s : MapM) (vv : A8u32M) : Nat → Int → (List TagM) → (MapM × Int) ⊕ (Int × (List TagM))
  | 0, s8, u3_1 => .inr (s8, u3_1)
  | fuel + 1, s8, u3_1 =>
    if s8 < (s.gone.length : Int) then
      if (r6has_m vv ((ix s.gone s8).id)) = true then
        r13compact_L1 s vv fuel (s8 + 1) u3_1
      else
        r13compact_L1 s vv fuel (s8 + 1) (u3_1 ++ [ix s.gone s8])
    else
      .inr (s8, u3_1)
def r13compact_m (s : MapM) (vv : A8u32M) : MapM × Int :=
  if (r13check_m s) = 0 then
    match r13compact_L1 s vv (((s.gone.length : Int) - (0 : Int)).toNat + 1) (0 : Int) ([] : List TagM) with
    | .inl r => r
    | .inr (s8, u3_1) =>
      ((⟨s.puts, u3_1⟩ : MapM), 0)
  else
    ((⟨([] : List PutM), ([] : List TagM)⟩ : MapM), r13check_m s)
theorem r13compact_ok (X : List Nat) (w : World) (hX : Lo X w) (s : MapM) (A2 : Option Addr) (C2 : Nat) (A1 : Option Addr) (C1 : Nat) (vv : A8u32M) (z5 : Sld X w A2 s.puts.length C2 7 (s.puts.flatMap putMC)) (z4 : Sld X w A1 s.gone.length C1 3 (s.gone.flatMap tagMC)) (h1 : s.puts.length ≤ 1000000) (h2 : s.gone.length ≤ 1000000) :
    Fn Tryz.prog 43 [.agg #[.slice A2 s.puts.length C2, .slice A1 s.gone.length C1], .agg (a8u32C vv).toArray] w fun v w' => ∃ (A4 : Option Addr) (C4 : Nat) (A3 : Option Addr) (C3 : Nat), v = .tuple #[.agg #[.slice A4 (((r13compact_m s vv).1).puts).length C4, .slice A3 (((r13compact_m s vv).1).gone).length C3], .int .i64 ((r13compact_m s vv).2)] ∧ Sld X w' A4 (((r13compact_m s vv).1).puts).length C4 7 ((((r13compact_m s vv).1).puts).flatMap putMC) ∧ Sld X w' A3 (((r13compact_m s vv).1).gone).length C3 3 ((((r13compact_m s vv).1).gone).flatMap tagMC) ∧ Fr [] w w' := by
  refine Fn_of 45 Ty.en_43 Tryz.func43 rfl rfl rfl ?_
  dsimp only [argEnv]
  have st := stn2 hX z5 z4
  have hF := Fr.refl ([]) w
  refine sq fun _ k1 => rg (La rfl (Sbx st hF rfl fun g1 w1 (st : St _ _ [_] _) hF hg1 => La rfl (Sbx st hF rfl fun g2 w2 (st : St _ _ [_, _] _) hF hg2 => La rfl (Sal Ty.zc_35 st hF rfl fun g3 w3 (st : St _ _ [_, _, _] _) hF hg3 => Ls' rfl (Ln k1 (sq fun _ k2 => rg (Ly rfl (yw 0 Ty.ag_35 st rfl) (La rfl (Scl st hF rfl (r13check_ok (keys (hOf st) ++ X) _ st.Lo s A2 C2 A1 C1 (st.q 0 rfl) (st.q 1 rfl)) fun w4 st hF => Ls' rfl (Ln k2 (sq fun _ k3 => sq fun _ k4 => rg (Lm rfl (Ly rfl (yne rfl) (Ln k4 (cN rfl (fun hc1 => ?_) (fun hc1 => ?_))))))))))))))))
  · refine sq fun _ k5 => rg (Ly rfl (y_build (cells := [_, _]) rfl rfl Ty.zc_35 Ty.ps_35 rfl) (Lm rfl (La rfl (Ssw 2 Ty.sz_35 st hF (.inr hg3) rfl fun w5 (st : St _ _ [_, _, _] _) hF => Ls' rfl (Ln k5 ?_)))))
    have st := st.aN 7
    have st := st.aN 3
    refine wR (Th_r (fR (ResN2 rfl (rvc (i := 2) rfl Ty.ag_35 st.hp rfl rfl) rfl) ?_))
    unfold r13compact_m; rewrite [iN hc1]
    exact ⟨_, _, _, _, rfl, st.ot 2 rfl, st.ot 3 rfl, hF⟩
  refine sk k3 (sq fun _ k6 => rg (Ly rfl (yf rfl Ty.fo_35_0) (Ly rfl (yl 0 Ty.pl_33 st rfl) (Ly rfl (y_build (cells := [_, _]) rfl rfl Ty.zc_35 Ty.ps_35 rfl) (La rfl (Sal Ty.zc_35 st hF rfl fun g4 w6 (st : St _ _ [_, _, _, _] _) hF hg4 => La rfl (Ssw 3 Ty.sz_35 st hF (.inr hg4) rfl fun w7 (st : St _ _ [_, _, _, _] _) hF => Ln k6 (sq fun _ k7 => sq fun _ k8 => rg (Ls' rfl (Ln k8 (Wp_block ?_)))))))))))
  obtain ⟨st, how1, hnew1⟩ := st.rowN tagMC hF 3 41
  have st : St _ _ [_, _, _, _, _] _ := st
  refine lp (fun q E W => ∃ (s8 : Int) (u3_1 : List TagM) (Au3_1 : Option Addr) (cu3_1 : Nat) (spu3_1 : List Value), E = [(2, .pointer (some ⟨g1, 0, none⟩)), (3, .pointer (some ⟨g2, 0, none⟩)), (4, .pointer (some ⟨g3, 0, none⟩)), (7, .pointer (some ⟨g4, 0, none⟩)), (8, .int .i64 s8)] ∧ jq q (fun m => (r13compact_L1 s vv m s8 u3_1 = r13compact_L1 s vv (((s.gone.length : Int) - (0 : Int)).toNat + 1) (0 : Int) ([] : List TagM) ∧ ((s.gone.length : Int) - s8).toNat < m)) (r13compact_L1 s vv (((s.gone.length : Int) - (0 : Int)).toNat + 1) (0 : Int) ([] : List TagM) = .inr (s8, u3_1)) ∧ (0 ≤ s8 ∧ (u3_1.length : Int) ≤ s8) ∧ Ow Au3_1 u3_1.length cu3_1 3 (u3_1.flatMap tagMC) spu3_1 ∧ (∀ g, blkOf Au3_1 = some g → g ∈ ([]) ∨ w.heap.size ≤ g) ∧ St X W [(some g1, Cl [.slice A2 s.puts.length C2, .slice A1 s.gone.length C1] 35), (some g2, Cl [.int .u32 vv.e0, .int .u32 vv.e1, .int .u32 vv.e2, .int .u32 vv.e3, .int .u32 vv.e4, .int .u32 vv.e5, .int .u32 vv.e6, .int .u32 vv.e7] 45), (some g3, Cl [.slice none 0 0, .slice none 0 0] 35), (some g4, Cl [.slice A2 s.puts.length C2, .slice Au3_1 u3_1.length cu3_1] 35), (blkOf Au3_1, Cl (u3_1.flatMap tagMC ++ spu3_1) 41)] [kS A2 s.puts.length C2 7 (s.puts.flatMap putMC), kS A1 s.gone.length C1 3 (s.gone.flatMap tagMC)] ∧ Fr ([]) w W) (((s.gone.length : Int) - (0 : Int)).toNat + 1) [(2, _), (3, _), (4, _), (7, _), (8, _)] ⟨rfl, rfl, rfl, rfl, rfl, trivial⟩ ⟨_, _, _, _, _, rfl, ⟨rfl, Nat.lt_succ_self _⟩, by first | omega | (simp; done) | (simp; omega), how1, hnew1, st, hF⟩ k7 ?_ fun hout1 => ?_
  · rintro E w8 ⟨s8, u3_1, Au3_1, cu3_1, spu3_1, rfl, hLk1, hinv, howu3_1, newu3_1, st, hF⟩
    unfold jq at hLk1; dsimp only at hLk1
    refine sq fun _ k9 => rg (Ly rfl (yw 3 Ty.ag_35 st rfl) (La rfl (Ssw 2 Ty.sz_35 st hF (.inr hg3) rfl fun w9 (st : St _ _ [_, _, _, _, _] _) hF => Ls' rfl (Ln k9 ?_))))
    have st : St X w9 [_, _, _, _] [_, _, _] := st.freeze (i := 4) [0, 1, 2, 3] (by decide) rfl howu3_1 (by decide)
    refine wR (fR (ResN2 rfl (rvc (i := 2) rfl Ty.ag_35 st.hp rfl rfl) rfl) ?_)
    unfold r13compact_m; rewrite [iP hc1, hLk1]; (try dsimp only)
    exact ⟨_, _, _, _, rfl, st.ot 0 rfl, st.ot 2 rfl, hF⟩
  rintro m E w10 ⟨s8, u3_1, Au3_1, cu3_1, spu3_1, rfl, ⟨hL1, hmu⟩, hinv, howu3_1, newu3_1, st, hF⟩
  obtain ⟨fuel, rfl⟩ : ∃ q, m = q + 1 := ⟨m - 1, by omega⟩
  refine sq fun _ k10 => sq fun _ k11 => rg (Lm rfl (Ly rfl (yf rfl Ty.fo_35_1) (Ly rfl (yl 0 Ty.pl_30 st rfl) (Ly rfl (yll rfl Tryz.underlying30) (Ly rfl (ylt rfl) (Ln k11 (cD rfl (fun hc2 => ?_) (fun hc2 => ?_))))))))
  · refine sk k10 (sq fun _ k12 => Wp_block (sq fun _ k13 => ?_))
    refine Wp_plan (fun W => St X W (pickL (hOf st) [0, 1, 2, 3, 4]) (kOf st)) [(true, 0), (true, 1), (true, 2), (true, 3), (true, 4), (true, 5), (true, 6), (false, 7), (true, 8)] Ty.mx_0 (by kernel_rfl) (by kernel_rfl) rfl ((st.pk [0, 1, 2, 3, 4] (by decide)).drew) ?_
    have st := st.drew
    have hF := hF.step0 (Fr.drew _)
    refine Py rfl (y_loadw (i := 1) rfl rfl Ty.ag_45 (fun _ h => h.hp) rfl rfl) (Py rfl (yf rfl Ty.fo_35_1) (Py rfl (y_load (i := 0) rfl rfl Ty.pl_30 (fun _ h => h.hp) rfl rfl) (Pm rfl ?_)))
    obtain ⟨gi1, bi1, egi1⟩ := (st.k (i := 1) rfl).addr (fun _ => rfl) (by decide) (q := s8) (by omega) (by omega)
    subst egi1
    refine Py rfl (y_ixa (q := s8) rfl rfl rfl Ty.es_30 (by omega) (by omega)) ?_
    refine Py rfl (yf rfl Ty.fo_41_0) (Py rfl (y_ldkm (q := s8) 0 rfl rfl Ty.ag_39 (fun _ h => h.k (i := 1) rfl) (fun _ => rfl) (by omega) (by omega) rfl rfl) ?_)
    refine Pl_a rfl (wtd0 rfl) (by rfl) ?_
    refine Scl st hF rfl (r6has_ok _ vv ((ix s.gone s8).id)) fun w11 st hF => ?_
    refine ⟨(st.pk [0, 1, 2, 3, 4] (by decide)).tK 2, ?_⟩
    refine Py rfl (yn rfl) (Pl_nil (Th_n (k13 _ _ (cBn rfl (fun hc3 => ?_) (fun hc3 => ?_)))))
    · refine Wp_planF (fun W => St X W (pickL (hOf st) [0, 1, 2, 3]) (kOf st)) [(true, 0), (true, 1), (true, 2), (true, 3), (true, 4), (true, 5), (true, 6), (false, 7), (false, 8), (true, 9)] 10 Ty.mx_0 (by kernel_rfl) (by kernel_rfl) (by kernel_rfl) rfl ((st.pk [0, 1, 2, 3] (by decide)).drew) ?_
      have st := st.drew
      have hF := hF.step0 (Fr.drew _)
      refine Py rfl (yf rfl Ty.fo_35_1) (Py rfl (y_load (i := 3) rfl rfl Ty.pl_30 (fun _ h => h.hp) rfl rfl) (Py rfl (yf rfl Ty.fo_35_1) (Py rfl (y_load (i := 0) rfl rfl Ty.pl_30 (fun _ h => h.hp) rfl rfl) (Pm rfl (Py rfl (y_ixa (q := s8) rfl rfl rfl Ty.es_30 (by omega) (by omega)) ?_)))))
      refine Py rfl (y_ldk (q := s8) rfl rfl Ty.ag_41 (fun _ h => h.k (i := 1) rfl) (fun _ => rfl) (by omega) (by omega)) ?_
      refine Pl_a rfl (wtd0 rfl) (by rfl) ?_
      refine Sb (enc := tagMC) (ix s.gone s8) Ty.es_30 Ty.zc_41 (fun _ => rfl) st hF rfl fun g5 w12 how2 hnew2 (st : St _ _ [_, _, _, _, _, _] _) hF => ?_
      refine ⟨(st.pk [0, 1, 2, 3] (by decide)).tK 2, ?_⟩
      refine Pl_a rfl (wtd0 rfl) (by rfl) ?_
      refine Sap (enc := tagMC) u3_1 [ix s.gone s8] 4 Ty.es_30 Ty.zc_41 Ty.by_41 (fun _ => rfl) tagMC_1 howu3_1 newu3_1 st hF (own_src (i := 5) st.hp rfl how2) (own_none how2) rfl (by first | omega | (simp; done) | (simp; omega)) (by first | omega | (simp; done) | (simp; omega)) fun Aa1 ca1 sp1 w13 how3 hnew3 (st : St _ _ [_, _, _, _, _, _] _) hF => ?_
      refine ⟨(st.pk [0, 1, 2, 3] (by decide)).tK 2, ?_⟩
      refine Py rfl (yf rfl Ty.fo_35_1) (Pl_nil (Fin_a rfl (wtd0 rfl) (Ss1 3 Ty.sz_30 st hF (.inr hg4) rfl fun w14 (st : St _ _ [_, _, _, (_, Cl [_, _] _), _, _] _) hF => id (Ib_n (Th_n (k12 _ _ (rg (Lm rfl (Ly rfl (y_add (c := s8 + 1) rfl rfl rfl (wf_i64 (by omega))) ?_)))))))))
      refine Ls' rfl (Ls_nil (Th_n (?_)))
      exact ⟨fuel, [(2, _), (3, _), (4, _), (7, _), (8, _)], Nat.lt_succ_self _, ⟨rfl, rfl, rfl, rfl, rfl, trivial⟩, (s8 + 1), (u3_1 ++ [ix s.gone s8]), Aa1, ca1, sp1, rfl, ⟨by rewrite [← hL1, r13compact_L1]; rewrite [iP hc2, iN hc3]; rfl, by omega⟩, by first | omega | (simp; done) | (simp; omega), how3, hnew3, (st.pk [0, 1, 2, 3, 4] (by decide)).pickK [0, 1], hF⟩
    refine Wp_skip (Ib_n (Th_n (k12 _ _ (rg (Lm rfl (Ly rfl (y_add (c := s8 + 1) rfl rfl rfl (wf_i64 (by omega))) ?_))))))
    refine Ls' rfl (Ls_nil (Th_n (?_)))
    exact ⟨fuel, [(2, _), (3, _), (4, _), (7, _), (8, _)], Nat.lt_succ_self _, ⟨rfl, rfl, rfl, rfl, rfl, trivial⟩, (s8 + 1), u3_1, Au3_1, cu3_1, spu3_1, rfl, ⟨by rewrite [← hL1, r13compact_L1]; rewrite [iP hc2, iP hc3]; rfl, by omega⟩, by omega, howu3_1, newu3_1, (st.pk [0, 1, 2, 3, 4] (by decide)).pickK [0, 1], hF⟩
  refine Wp_exit (Th_e (Th_e (Ib_hit (Th_n (?_)))))
  exact hout1 _ [(2, _), (3, _), (4, _), (7, _), (8, _)] _ ⟨rfl, rfl, rfl, rfl, rfl, trivial⟩ ⟨s8, u3_1, Au3_1, cu3_1, spu3_1, rfl, show _ = _ from by rewrite [← hL1, r13compact_L1]; rewrite [iN hc2]; rfl, by omega, howu3_1, newu3_1, (st.pk [0, 1, 2, 3, 4] (by decide)).pickK [0, 1], hF⟩
theorem eqv_129r (a0 : List UInt8) (a1 : Int) (b0 : List UInt8) (b1 : Int) : eqVals Tryz.prog 8 129 [sv a0, .int .i64 a1] [sv b0, .int .i64 b1] = some ((a0 == b0) && ((a1 == b1) && true)) := by kernel_rfl
theorem eqv_129 (x y : ItemM) : eqVals Tryz.prog 8 129 (itemMC x) (itemMC y) = some (decide (x = y)) := by
  obtain ⟨a0, a1⟩ := x
  obtain ⟨b0, b1⟩ := y
  refine (eqv_129r a0 a1 b0 b1).trans (congrArg some ?_)
  rw [Bool.eq_iff_iff]
  simp
def sameItems_L1 (a : List ItemM) (b : List ItemM) : Nat → Int → (Bool) ⊕ (Int)
  | 0, s5 => .inr (s5)
  | fuel + 1, s5 =>
    if s5 < (a.length : Int) then
      if ix a s5 = ix b s5 then
        sameItems_L1 a b fuel (s5 + 1)
      else
        .inl false
    else
      .inr (s5)
def sameItems_m (a : List ItemM) (b : List ItemM) : Bool :=
  if (a.length : Int) = (b.length : Int) then
    match sameItems_L1 a b (((a.length : Int) - (0 : Int)).toNat + 1) (0 : Int) with
    | .inl r => r
    | .inr (s5) =>
      true
  else
    false
theorem sameItems_ok (X : List Nat) (w : World) (hX : Lo X w) (a : List ItemM) (A_a : Option Addr) (c_a : Nat) (b : List ItemM) (A_b : Option Addr) (c_b : Nat) (h_a : Sld X w A_a a.length c_a 2 (a.flatMap itemMC)) (h_b : Sld X w A_b b.length c_b 2 (b.flatMap itemMC)) :
    Fn Tryz.prog 50 [.slice A_a a.length c_a, .slice A_b b.length c_b] w fun v w' => v = .bool (sameItems_m a b) ∧ Fr [] w w' := by
  refine Fn_of 26 Ty.en_50 Tryz.func50 rfl rfl rfl ?_
  dsimp only [argEnv]
  have st := stn2 hX h_a h_b
  have hF := Fr.refl ([]) w
  have z1 := (st.q 0 rfl).le
  have z2 := (st.q 1 rfl).le
  refine sq fun _ k1 => rg (Ls' rfl (Ln k1 (sq fun _ k2 => sq fun _ k3 => rg (Lm rfl (Ly rfl (yll rfl Tryz.underlying70) (Lm rfl (Ly rfl (yll rfl Tryz.underlying70) (Ly rfl (yne rfl) (Ln k3 (cN rfl (fun hc1 => ?_) (fun hc1 => ?_)))))))))))
  · refine sq fun _ k4 => rg (Ls' rfl (Ln k4 (wR (Th_r (fR (Res1 rfl rfl) ?_)))))
    unfold sameItems_m; rewrite [iN hc1]
    exact ⟨rfl, hF⟩
  refine sk k2 (sq fun _ k5 => sq fun _ k6 => rg (Ls' rfl (Ln k6 (Wp_block (lp (fun q E W => ∃ (s5 : Int), E = [(0, .slice A_a a.length c_a), (1, .slice A_b b.length c_b), (5, .int .i64 s5)] ∧ jq q (fun m => (sameItems_L1 a b m s5 = sameItems_L1 a b (((a.length : Int) - (0 : Int)).toNat + 1) (0 : Int) ∧ ((a.length : Int) - s5).toNat < m)) (sameItems_L1 a b (((a.length : Int) - (0 : Int)).toNat + 1) (0 : Int) = .inr (s5)) ∧ (0 ≤ s5) ∧ St X W [] [kS A_a a.length c_a 2 (a.flatMap itemMC), kS A_b b.length c_b 2 (b.flatMap itemMC)] ∧ Fr ([]) w W) (((a.length : Int) - (0 : Int)).toNat + 1) [(0, _), (1, _), (5, _)] ⟨rfl, rfl, rfl, trivial⟩ ⟨_, rfl, ⟨rfl, Nat.lt_succ_self _⟩, by omega, st, hF⟩ k5 ?_ fun hout1 => ?_)))))
  · rintro E w1 ⟨s5, rfl, hLk1, hinv, st, hF⟩
    unfold jq at hLk1; dsimp only at hLk1
    refine sq fun _ k7 => rg (Ls' rfl (Ln k7 (wR (fR (Res1 rfl rfl) ?_))))
    unfold sameItems_m; rewrite [iP hc1, hLk1]; (try dsimp only)
    exact ⟨rfl, hF⟩
  rintro m E w2 ⟨s5, rfl, ⟨hL1, hmu⟩, hinv, st, hF⟩
  obtain ⟨fuel, rfl⟩ : ∃ q, m = q + 1 := ⟨m - 1, by omega⟩
  refine sq fun _ k8 => sq fun _ k9 => rg (Lm rfl (Lm rfl (Ly rfl (yll rfl Tryz.underlying70) (Ly rfl (ylt rfl) (Ln k9 (cD rfl (fun hc2 => ?_) (fun hc2 => ?_)))))))
  · refine sk k8 (sq fun _ k10 => Wp_block (sq fun _ k11 => ?_))
    refine Wp_plan (fun W => St X W (pickL (hOf st) []) (kOf st)) [(true, 0), (true, 1), (true, 2), (true, 3), (true, 4), (true, 5), (true, 6), (true, 7), (true, 8)] Ty.mx_0 (by kernel_rfl) (by kernel_rfl) rfl ((st.pk [] (by decide)).drew) ?_
    have st := st.drew
    have hF := hF.step0 (Fr.drew _)
    refine Pm rfl (Pm rfl ?_)
    obtain ⟨gi1, bi1, egi1⟩ := (st.k (i := 0) rfl).addr (fun _ => rfl) (by decide) (q := s5) (by omega) (by omega)
    subst egi1
    refine Py rfl (y_ixa (q := s5) rfl rfl rfl Ty.es_70 (by omega) (by omega)) ?_
    refine Py rfl (y_ldk (q := s5) rfl rfl Ty.ag_129 (fun _ h => h.k (i := 0) rfl) (fun _ => rfl) (by omega) (by omega)) ?_
    refine Pm rfl (Pm rfl ?_)
    obtain ⟨gi2, bi2, egi2⟩ := (st.k (i := 1) rfl).addr (fun _ => rfl) (by decide) (q := s5) (by omega) (by omega)
    subst egi2
    refine Py rfl (y_ixa (q := s5) rfl rfl rfl Ty.es_70 (by omega) (by omega)) ?_
    refine Py rfl (y_ldk (q := s5) rfl rfl Ty.ag_129 (fun _ h => h.k (i := 1) rfl) (fun _ => rfl) (by omega) (by omega)) ?_
    refine Py rfl (y_nev (b := decide (ix a s5 = ix b s5)) rfl rfl rfl Ty.eg_129 (by rw [Ty.ag_129]; simp) (eqv_129 (ix a s5) (ix b s5))) ?_
    refine Pl_nil (Th_n (k11 _ _ (cDn rfl (fun hc3 => ?_) (fun hc3 => ?_))))
    · refine sq fun _ k12 => rg (Ls' rfl (Ln k12 (wR (Ib_r (Th_r (Th_r (Ib_r (Th_r (fR (Res1 rfl rfl) ?_)))))))))
      have hret1 : sameItems_L1 a b (((a.length : Int) - (0 : Int)).toNat + 1) (0 : Int) = .inl false := by rewrite [← hL1, sameItems_L1]; rewrite [iP hc2, iN hc3]; rfl
      have he3 : sameItems_m a b = false := by unfold sameItems_m; rewrite [iP hc1, hret1]; (try dsimp only); all_goals rfl
      rewrite [he3]
      exact ⟨rfl, hF⟩
    refine Wp_skip (Ib_n (Th_n (k10 _ _ (rg (Lm rfl (Ly rfl (y_add (c := s5 + 1) rfl rfl rfl (wf_i64 (by first | omega | (simp; done) | (simp; omega)))) ?_))))))
    refine Ls' rfl (Ls_nil (Th_n (?_)))
    exact ⟨fuel, [(0, _), (1, _), (5, _)], Nat.lt_succ_self _, ⟨rfl, rfl, rfl, trivial⟩, (s5 + 1), rfl, ⟨by rewrite [← hL1, sameItems_L1]; rewrite [iP hc2, iP hc3]; rfl, by omega⟩, by omega, (st.pk [] (by decide)).pickK [0, 1], hF⟩
  refine Wp_exit (Th_e (Th_e (Ib_hit (Th_n (?_)))))
  exact hout1 _ [(0, _), (1, _), (5, _)] _ ⟨rfl, rfl, rfl, trivial⟩ ⟨s5, rfl, show _ = _ from by rewrite [← hL1, sameItems_L1]; rewrite [iN hc2]; rfl, by omega, (st.pk [] (by decide)).pickK [0, 1], hF⟩
def r14takes_m (act : Int) : Bool :=
  if act = 4 then
    true
  else
    act == 6
theorem r14takes_ok (w : World) (act : Int) :
    Fn Tryz.prog 98 [.int .i64 act] w fun v w' => v = .bool (r14takes_m act) ∧ Fr [] w w' := by
  refine Fn_of 9 Ty.en_98 Tryz.func98 rfl rfl rfl ?_
  dsimp only [argEnv]
  have st := stn0 (X := []) (w := w) (by simp [Lo])
  have hF := Fr.refl ([]) w
  refine sq fun _ k1 => rg (Ls' rfl (Ln k1 (sq fun _ k2 => rg (Lm rfl (Ly rfl (yeq rfl) (Lm rfl (bE (s := 5) rfl (fun hc1 => ?_) (fun hc1 => ?_))))))))
  · refine LsF rfl (LsF rfl (Ly rfl (yT rfl) (Ls' rfl (Ln k2 (wR (fR (Res1 rfl rfl) ?_))))))
    unfold r14takes_m; rewrite [iP hc1]
    exact ⟨rfl, hF⟩
  refine LyT rfl (y_move rfl rfl) (LyT rfl (yeq rfl) (Ly rfl (yF rfl) (Ls' rfl (Ln k2 (wR (fR (Res1 rfl rfl) ?_))))))
  unfold r14takes_m; rewrite [iN hc1]
  exact ⟨rfl, hF⟩
def r14checkE_c1 (e : EffectM) (s4 : Int) : Bool :=
  (if (r14timed_m e.act) = true then (if (r9check_m e.atF) = 0 then (if e.atF.time = 0 then true else (if (r14takes_m e.act) = true then false else decide (0 < (e.tags.length : Int)))) else true) else (if e.atF = (⟨0, 0⟩ : StampM) then (if (r14takes_m e.act) = true then false else decide (0 < (e.tags.length : Int))) else true))
def r14checkE_L2 (e : EffectM) (s4 : Int) : Nat → Int → (Int) ⊕ (Int)
  | 0, s5 => .inr (s5)
  | fuel + 1, s5 =>
    if s5 < (e.tags.length : Int) then
      if 0 ≤ (r5compareTag_m (ix e.tags (s5 - 1)) (ix e.tags s5)) then
        .inl 3
      else
        r14checkE_L2 e s4 fuel (s5 + 1)
    else
      .inr (s5)
def r14checkE_L1 (e : EffectM) : Nat → Int → (Int) ⊕ (Int)
  | 0, s4 => .inr (s4)
  | fuel + 1, s4 =>
    if s4 < (e.tags.length : Int) then
      if (r5checkTag_m (ix e.tags s4)) = 0 then
        r14checkE_L1 e fuel (s4 + 1)
      else
        .inl 2
    else
      .inr (s4)
def r14checkE_m (e : EffectM) : Int :=
  if (r14checkOp_m (⟨e.act, e.name, e.val⟩ : OpM)) = 0 then
    if (r5checkTag_m e.tag) = 0 then
      match r14checkE_L1 e (((e.tags.length : Int) - (0 : Int)).toNat + 1) (0 : Int) with
      | .inl r => r
      | .inr (s4) =>
        if 4096 < (e.tags.length : Int) then
          8
        else
          if (r14checkE_c1 e s4) = true then
            3
          else
            match r14checkE_L2 e s4 (((e.tags.length : Int) - (1 : Int)).toNat + 1) (1 : Int) with
            | .inl r => r
            | .inr (s5) =>
              0
    else
      2
  else
    r14checkOp_m (⟨e.act, e.name, e.val⟩ : OpM)
theorem r14checkE_c1_iff (e : EffectM) (s4 : Int) : (r14checkE_c1 e s4 = true) ↔ ((((r14timed_m e.act) = true) ∧ (¬ ((r9check_m e.atF) = 0) ∨ ((e.atF.time = 0) ∨ (¬ ((r14takes_m e.act) = true) ∧ (0 < (e.tags.length : Int)))))) ∨ (¬ ((r14timed_m e.act) = true) ∧ (¬ (e.atF = (⟨0, 0⟩ : StampM)) ∨ (¬ ((r14takes_m e.act) = true) ∧ (0 < (e.tags.length : Int)))))) := by
  unfold r14checkE_c1; exact (ci5 (ci4 (ci1 (ci3 decide_eq_true_iff))) (ci4 (ci3 decide_eq_true_iff)))
theorem r14checkE_ok (X : List Nat) (w : World) (hX : Lo X w) (e : EffectM) (A1 : Option Addr) (C1 : Nat) (z2 : Sld X w A1 e.tags.length C1 3 (e.tags.flatMap tagMC)) :
    Fn Tryz.prog 32 [.agg #[.int .i64 e.act, sv e.name, .int .i64 e.val, .int .i64 e.tag.id.origin, .int .u32 e.tag.id.seq, .int .i64 e.tag.n, .int .u32 e.atF.time, .int .i64 e.atF.origin, .slice A1 e.tags.length C1]] w fun v w' => v = .int .i64 (r14checkE_m e) ∧ Fr [] w w' := by
  refine Fn_of 98 Ty.en_32 Tryz.func32 rfl rfl rfl ?_
  dsimp only [argEnv]
  have st := stn1 hX z2
  have hF := Fr.refl ([]) w
  have z1 := (st.q 0 rfl).le
  refine sq fun _ k1 => rg (La rfl (Sbx st hF rfl fun g1 w1 (st : St _ _ [_] _) hF hg1 => Ls' rfl (Ln k1 (sq fun _ k2 => rg (Ly rfl (yf rfl Ty.fo_43_0) (Ly rfl (yl 0 Ty.pl_3 st rfl) (Ly rfl (yf rfl Ty.fo_43_1) (Ly rfl (yl 0 Ty.pl_9 st rfl) (Ly rfl (yf rfl Ty.fo_43_2) (Ly rfl (yl 0 Ty.pl_2 st rfl) (Ly rfl (y_build (cells := [_, _, _]) rfl rfl Ty.zc_178 Ty.ps_178 rfl) (La rfl (Scl st hF rfl (r14checkOp_ok _ (⟨e.act, e.name, e.val⟩ : OpM)) fun w2 st hF => Ls' rfl (Ln k2 (sq fun _ k3 => sq fun _ k4 => rg (Lm rfl (Ly rfl (yne rfl) (Ln k4 (cN rfl (fun hc1 => ?_) (fun hc1 => ?_))))))))))))))))))))
  · refine sq fun _ k5 => rg (Lm rfl (Ls' rfl (Ln k5 (wR (Th_r (fR (Res1 rfl rfl) ?_))))))
    unfold r14checkE_m; rewrite [iN hc1]
    exact ⟨rfl, hF⟩
  refine sk k3 (sq fun _ k6 => sq fun _ k7 => rg (Ly rfl (yf rfl Ty.fo_43_3) (Ly rfl (ym 0 Ty.ag_41 st rfl) (La rfl (Scl st hF rfl (r5checkTag_ok _ e.tag) fun w3 st hF => Ly rfl (yne rfl) (Ln k7 (cN rfl (fun hc2 => ?_) (fun hc2 => ?_))))))))
  · refine sq fun _ k8 => rg (Ls' rfl (Ln k8 (wR (Th_r (fR (Res1 rfl rfl) ?_)))))
    unfold r14checkE_m; rewrite [iP hc1, iN hc2]
    exact ⟨rfl, hF⟩
  refine sk k6 (sq fun _ k9 => sq fun _ k10 => rg (Ls' rfl (Ln k10 (Wp_block (lp (fun q E W => ∃ (s4 : Int), E = [(1, .pointer (some ⟨g1, 0, none⟩)), (4, .int .i64 s4)] ∧ jq q (fun m => (r14checkE_L1 e m s4 = r14checkE_L1 e (((e.tags.length : Int) - (0 : Int)).toNat + 1) (0 : Int) ∧ ((e.tags.length : Int) - s4).toNat < m)) (r14checkE_L1 e (((e.tags.length : Int) - (0 : Int)).toNat + 1) (0 : Int) = .inr (s4)) ∧ (0 ≤ s4) ∧ St X W [(some g1, Cl [.int .i64 e.act, sv e.name, .int .i64 e.val, .int .i64 e.tag.id.origin, .int .u32 e.tag.id.seq, .int .i64 e.tag.n, .int .u32 e.atF.time, .int .i64 e.atF.origin, .slice A1 e.tags.length C1] 43)] [kS A1 e.tags.length C1 3 (e.tags.flatMap tagMC)] ∧ Fr ([]) w W) (((e.tags.length : Int) - (0 : Int)).toNat + 1) [(1, _), (4, _)] ⟨rfl, rfl, trivial⟩ ⟨_, rfl, ⟨rfl, Nat.lt_succ_self _⟩, by omega, st, hF⟩ k9 ?_ fun hout1 => ?_)))))
  · rintro E w4 ⟨s4, rfl, hLk1, hinv, st, hF⟩
    unfold jq at hLk1; dsimp only at hLk1
    refine sq fun _ k11 => sq fun _ k12 => rg (Ly rfl (yf rfl Ty.fo_43_5) (Ly rfl (yl 0 Ty.pl_30 st rfl) (Ly rfl (yll rfl Tryz.underlying30) (Ly rfl (ygt rfl) (Ln k12 (cD rfl (fun hc3 => ?_) (fun hc3 => ?_)))))))
    · refine sq fun _ k13 => rg (Ls' rfl (Ln k13 (wR (Th_r (fR (Res1 rfl rfl) ?_)))))
      unfold r14checkE_m; rewrite [iP hc1, iP hc2, hLk1]; (try dsimp only); rewrite [iP hc3]
      exact ⟨rfl, hF⟩
    refine sk k11 (sq fun _ k14 => sq fun _ k15 => ?_)
    refine use_out k15 (fun E W => E = [(1, .pointer (some ⟨g1, 0, none⟩)), (77, .bool (r14checkE_c1 e s4))] ∧ St X W (hOf st) (kOf st) ∧ Fr ([]) w W) ?_ fun hout2 => ?_
    · rintro E w5 ⟨rfl, st, hF⟩
      have st : St X w5 [_] [_] := st
      refine cB rfl (fun hc4 => ?_) (fun hc4 => ?_)
      · have jhc4 := (r14checkE_c1_iff e s4).1 hc4
        refine sq fun _ k16 => rg (Ls' rfl (Ln k16 (wR (Th_r (fR (Res1 rfl rfl) ?_)))))
        unfold r14checkE_m; rewrite [iP hc1, iP hc2, hLk1]; (try dsimp only); rewrite [iN hc3, iP hc4]
        exact ⟨rfl, hF⟩
      have jhc4 := mt (r14checkE_c1_iff e s4).2 hc4
      refine sk k14 (sq fun _ k17 => sq fun _ k18 => rg (Ls' rfl (Ln k18 (Wp_block (lp (fun q E W => ∃ (s5 : Int), E = [(1, .pointer (some ⟨g1, 0, none⟩)), (5, .int .i64 s5)] ∧ jq q (fun m => (r14checkE_L2 e s4 m s5 = r14checkE_L2 e s4 (((e.tags.length : Int) - (1 : Int)).toNat + 1) (1 : Int) ∧ ((e.tags.length : Int) - s5).toNat < m)) (r14checkE_L2 e s4 (((e.tags.length : Int) - (1 : Int)).toNat + 1) (1 : Int) = .inr (s5)) ∧ (1 ≤ s5) ∧ St X W [(some g1, Cl [.int .i64 e.act, sv e.name, .int .i64 e.val, .int .i64 e.tag.id.origin, .int .u32 e.tag.id.seq, .int .i64 e.tag.n, .int .u32 e.atF.time, .int .i64 e.atF.origin, .slice A1 e.tags.length C1] 43)] [kS A1 e.tags.length C1 3 (e.tags.flatMap tagMC)] ∧ Fr ([]) w W) (((e.tags.length : Int) - (1 : Int)).toNat + 1) [(1, _), (5, _)] ⟨rfl, rfl, trivial⟩ ⟨_, rfl, ⟨rfl, Nat.lt_succ_self _⟩, by omega, st, hF⟩ k17 ?_ fun hout3 => ?_)))))
      · rintro E w6 ⟨s5, rfl, hLk2, hinv, st, hF⟩
        unfold jq at hLk2; dsimp only at hLk2
        refine sq fun _ k19 => rg (Ls' rfl (Ln k19 (wR (fR (Res1 rfl rfl) ?_))))
        unfold r14checkE_m; rewrite [iP hc1, iP hc2, hLk1]; (try dsimp only); rewrite [iN hc3, iN hc4, hLk2]; (try dsimp only)
        exact ⟨rfl, hF⟩
      rintro m E w7 ⟨s5, rfl, ⟨hL2, hmu⟩, hinv, st, hF⟩
      obtain ⟨fuel, rfl⟩ : ∃ q, m = q + 1 := ⟨m - 1, by omega⟩
      refine sq fun _ k20 => sq fun _ k21 => rg (Lm rfl (Ly rfl (yf rfl Ty.fo_43_5) (Ly rfl (yl 0 Ty.pl_30 st rfl) (Ly rfl (yll rfl Tryz.underlying30) (Ly rfl (ylt rfl) (Ln k21 (cD rfl (fun hc5 => ?_) (fun hc5 => ?_))))))))
      · refine sk k20 (sq fun _ k22 => Wp_block (sq fun _ k23 => ?_))
        refine Wp_plan (fun W => St X W (pickL (hOf st) [0]) (kOf st)) [(true, 0), (true, 1), (true, 2), (true, 3), (true, 4), (true, 5), (true, 6), (true, 7), (true, 8), (true, 9), (true, 10), (false, 11), (true, 12)] Ty.mx_0 (by kernel_rfl) (by kernel_rfl) rfl ((st.pk [0] (by decide)).drew) ?_
        have st := st.drew
        have hF := hF.step0 (Fr.drew _)
        refine Py rfl (yf rfl Ty.fo_43_5) (Py rfl (y_load (i := 0) rfl rfl Ty.pl_30 (fun _ h => h.hp) rfl rfl) (Pm rfl (Py rfl (y_sub (c := s5 - 1) rfl rfl rfl (wf_i64 (by omega))) ?_)))
        obtain ⟨gi1, bi1, egi1⟩ := (st.k (i := 0) rfl).addr (fun _ => rfl) (by decide) (q := s5 - 1) (by omega) (by omega)
        subst egi1
        refine Py rfl (y_ixa (q := s5 - 1) rfl rfl rfl Ty.es_30 (by omega) (by omega)) ?_
        refine Py rfl (y_ldk (q := s5 - 1) rfl rfl Ty.ag_41 (fun _ h => h.k (i := 0) rfl) (fun _ => rfl) (by omega) (by omega)) ?_
        refine Py rfl (yf rfl Ty.fo_43_5) (Py rfl (y_load (i := 0) rfl rfl Ty.pl_30 (fun _ h => h.hp) rfl rfl) (Pm rfl (Py rfl (y_ixa (q := s5) rfl rfl rfl Ty.es_30 (by omega) (by omega)) ?_)))
        refine Py rfl (y_ldk (q := s5) rfl rfl Ty.ag_41 (fun _ h => h.k (i := 0) rfl) (fun _ => rfl) (by omega) (by omega)) ?_
        refine Pl_a rfl (wtd0 rfl) (by rfl) ?_
        refine Scl st hF rfl (r5compareTag_ok _ (ix e.tags (s5 - 1)) (ix e.tags s5)) fun w8 st hF => ?_
        refine ⟨(st.pk [0] (by decide)).tK 1, ?_⟩
        refine Py rfl (yge rfl) (Pl_nil (Th_n (k23 _ _ (cD rfl (fun hc6 => ?_) (fun hc6 => ?_)))))
        · refine sq fun _ k24 => rg (Ls' rfl (Ln k24 (wR (Ib_r (Th_r (Th_r (Ib_r (Th_r (fR (Res1 rfl rfl) ?_)))))))))
          have hret1 : r14checkE_L2 e s4 (((e.tags.length : Int) - (1 : Int)).toNat + 1) (1 : Int) = .inl 3 := by rewrite [← hL2, r14checkE_L2]; rewrite [iP hc5, iP hc6]; rfl
          have he6 : r14checkE_m e = 3 := by unfold r14checkE_m; rewrite [iP hc1, iP hc2, hLk1]; (try dsimp only); all_goals rewrite [iN hc3, iN hc4, hret1]; (try dsimp only); all_goals rfl
          rewrite [he6]
          exact ⟨rfl, hF⟩
        refine Wp_skip (Ib_n (Th_n (k22 _ _ (rg (Lm rfl (Ly rfl (y_add (c := s5 + 1) rfl rfl rfl (wf_i64 (by omega))) ?_))))))
        refine Ls' rfl (Ls_nil (Th_n (?_)))
        exact ⟨fuel, [(1, _), (5, _)], Nat.lt_succ_self _, ⟨rfl, rfl, trivial⟩, (s5 + 1), rfl, ⟨by rewrite [← hL2, r14checkE_L2]; rewrite [iP hc5, iN hc6]; rfl, by omega⟩, by omega, (st.pk [0] (by decide)).pickK [0], hF⟩
      refine Wp_exit (Th_e (Th_e (Ib_hit (Th_n (?_)))))
      exact hout3 _ [(1, _), (5, _)] _ ⟨rfl, rfl, trivial⟩ ⟨s5, rfl, show _ = _ from by rewrite [← hL2, r14checkE_L2]; rewrite [iN hc5]; rfl, by omega, (st.pk [0] (by decide)).pickK [0], hF⟩
    refine rg (Ly rfl (yf rfl Ty.fo_43_0) (Ly rfl (yl 0 Ty.pl_3 st rfl) (La rfl (Scl st hF rfl (r14timed_ok _ e.act) fun w9 st hF => Lm rfl (bB (s := 42) rfl (fun hc7 => ?_) (fun hc7 => ?_))))))
    · refine LyT rfl (yf rfl Ty.fo_43_4) (LyT rfl (ym 0 Ty.ag_24 st rfl) (LaT rfl (Scl st hF rfl (r9check_ok _ e.atF) fun w10 st hF => LyT rfl (yne rfl) (LyT rfl (y_move rfl rfl) (bN (s := 47) rfl (fun hc8 => ?_) (fun hc8 => ?_))))))
      · refine LsF rfl (LsF rfl (LsF rfl (LsF rfl (LyT rfl (yT rfl) (Ly rfl (yT rfl) (Lm rfl (LsF rfl (LsF rfl (LsF rfl (LsF rfl (LsF rfl (LsU rfl (LsU rfl (LsU rfl (LsU rfl (LsF rfl (Ly rfl (yT rfl) (Lm rfl (LsF rfl (LsF rfl (LsF rfl (LsF rfl (LsF rfl (LsU rfl (LsU rfl (LsU rfl (LsU rfl (LsF rfl (Ly rfl (yT rfl) (Ls_nil (Th_n (?_))))))))))))))))))))))))))))))))
        exact hout2 _ [(1, _), (77, _)] _ ⟨rfl, rfl, trivial⟩ ⟨by unfold r14checkE_c1; rewrite [iP hc7, iN hc8]; rfl, (st.pk [0] (by decide)).pickK [0], hF⟩
      refine LyT rfl (yf rfl Ty.fo_43_4) (LyT rfl (yf rfl Ty.fo_24_0) (LyT rfl (yl 0 Ty.pl_22 st rfl) (LyT rfl (yeq rfl) (LyT rfl (yF rfl) (Ly rfl (yT rfl) (Lm rfl (bE (s := 54) rfl (fun hc9 => ?_) (fun hc9 => ?_))))))))
      · refine LsF rfl (LsF rfl (LsF rfl (LsF rfl (LsF rfl (LsU rfl (LsU rfl (LsU rfl (LsU rfl (LsF rfl (Ly rfl (yT rfl) (Lm rfl (LsF rfl (LsF rfl (LsF rfl (LsF rfl (LsF rfl (LsU rfl (LsU rfl (LsU rfl (LsU rfl (LsF rfl (Ly rfl (yT rfl) (Ls_nil (Th_n (?_)))))))))))))))))))))))))
        exact hout2 _ [(1, _), (77, _)] _ ⟨rfl, rfl, trivial⟩ ⟨by unfold r14checkE_c1; rewrite [iP hc7, iP hc8, iP hc9]; rfl, (st.pk [0] (by decide)).pickK [0], hF⟩
      refine LyT rfl (yf rfl Ty.fo_43_0) (LyT rfl (yl 0 Ty.pl_3 st rfl) (LaT rfl (Scl st hF rfl (r14timed_ok _ e.act) fun w11 st hF => LyT rfl (yn rfl) (LyT rfl (y_move rfl rfl) (Ls_bool 59 rfl (fun hc10 => absurd hc10 (by simp [hc7])) (fun _ => ?_))))))
      refine LsF rfl (LsF rfl (LsF rfl (LsF rfl (LyT rfl (yF rfl) (Ly rfl (yF rfl) (Lm rfl (LyT rfl (yf rfl Ty.fo_43_0) (LyT rfl (yl 0 Ty.pl_3 st rfl) (LaT rfl (Scl st hF rfl (r14takes_ok _ e.act) fun w12 st hF => LyT rfl (yn rfl) (LyT rfl (y_move rfl rfl) (bBn (s := 71) rfl (fun hc11 => ?_) (fun hc11 => ?_)))))))))))))
      · refine LyT rfl (yf rfl Ty.fo_43_5) (LyT rfl (yl 0 Ty.pl_30 st rfl) (LyT rfl (yll rfl Tryz.underlying30) (LyT rfl (ygt rfl) (LyT rfl (yT rfl) (Ly rfl (yF rfl) (Ls_nil (Th_n (?_))))))))
        exact hout2 _ [(1, _), (77, _)] _ ⟨rfl, rfl, trivial⟩ ⟨by unfold r14checkE_c1; rewrite [iP hc7, iP hc8, iN hc9, iN hc11]; rfl, (st.pk [0] (by decide)).pickK [0], hF⟩
      refine LsF rfl (LsF rfl (LsF rfl (LsF rfl (LyT rfl (yF rfl) (Ly rfl (yF rfl) (Ls_nil (Th_n (?_))))))))
      exact hout2 _ [(1, _), (77, _)] _ ⟨rfl, rfl, trivial⟩ ⟨by unfold r14checkE_c1; rewrite [iP hc7, iP hc8, iN hc9, iP hc11]; rfl, (st.pk [0] (by decide)).pickK [0], hF⟩
    refine LsF rfl (LsF rfl (LsF rfl (LsF rfl (LsF rfl (LsU rfl (LsU rfl (LsU rfl (LsU rfl (LsF rfl (Ly rfl (yF rfl) (Lm rfl (LyT rfl (yf rfl Ty.fo_43_0) (LyT rfl (yl 0 Ty.pl_3 st rfl) (LaT rfl (Scl st hF rfl (r14timed_ok _ e.act) fun w13 st hF => LyT rfl (yn rfl) (LyT rfl (y_move rfl rfl) (Ls_bool 59 rfl (fun _ => ?_) (fun hc12 => absurd hc12 (by simp [hc7])))))))))))))))))))
    refine LyT rfl (yf rfl Ty.fo_43_4) (LyT rfl (ym 0 Ty.ag_24 st rfl) (LyT rfl (y_build (cells := [_, _]) rfl rfl Ty.zc_24 Ty.ps_24 rfl) (LyT rfl (y_nev (b := decide (e.atF = (⟨0, 0⟩ : StampM))) rfl rfl rfl Ty.eg_24 (by rw [Ty.ag_24]; simp) (eqv_24 e.atF (⟨0, 0⟩ : StampM))) ?_)))
    refine LyT rfl (yT rfl) (Ly rfl (yF rfl) (Lm rfl (bDn (s := 66) rfl (fun hc13 => ?_) (fun hc13 => ?_))))
    · refine LsF rfl (LsF rfl (LsF rfl (LsF rfl (LsF rfl (LsU rfl (LsU rfl (LsU rfl (LsU rfl (LsF rfl (Ly rfl (yT rfl) (Ls_nil (Th_n (?_)))))))))))))
      exact hout2 _ [(1, _), (77, _)] _ ⟨rfl, rfl, trivial⟩ ⟨by unfold r14checkE_c1; rewrite [iN hc7, iN hc13]; rfl, (st.pk [0] (by decide)).pickK [0], hF⟩
    refine LyT rfl (yf rfl Ty.fo_43_0) (LyT rfl (yl 0 Ty.pl_3 st rfl) (LaT rfl (Scl st hF rfl (r14takes_ok _ e.act) fun w14 st hF => LyT rfl (yn rfl) (LyT rfl (y_move rfl rfl) (bBn (s := 71) rfl (fun hc14 => ?_) (fun hc14 => ?_))))))
    · refine LyT rfl (yf rfl Ty.fo_43_5) (LyT rfl (yl 0 Ty.pl_30 st rfl) (LyT rfl (yll rfl Tryz.underlying30) (LyT rfl (ygt rfl) (LyT rfl (yT rfl) (Ly rfl (yF rfl) (Ls_nil (Th_n (?_))))))))
      exact hout2 _ [(1, _), (77, _)] _ ⟨rfl, rfl, trivial⟩ ⟨by unfold r14checkE_c1; rewrite [iN hc7, iP hc13, iN hc14]; rfl, (st.pk [0] (by decide)).pickK [0], hF⟩
    refine LsF rfl (LsF rfl (LsF rfl (LsF rfl (LyT rfl (yF rfl) (Ly rfl (yF rfl) (Ls_nil (Th_n (?_))))))))
    exact hout2 _ [(1, _), (77, _)] _ ⟨rfl, rfl, trivial⟩ ⟨by unfold r14checkE_c1; rewrite [iN hc7, iP hc13, iP hc14]; rfl, (st.pk [0] (by decide)).pickK [0], hF⟩
  rintro m E w15 ⟨s4, rfl, ⟨hL1, hmu⟩, hinv, st, hF⟩
  obtain ⟨fuel, rfl⟩ : ∃ q, m = q + 1 := ⟨m - 1, by omega⟩
  refine sq fun _ k25 => sq fun _ k26 => rg (Lm rfl (Ly rfl (yf rfl Ty.fo_43_5) (Ly rfl (yl 0 Ty.pl_30 st rfl) (Ly rfl (yll rfl Tryz.underlying30) (Ly rfl (ylt rfl) (Ln k26 (cD rfl (fun hc15 => ?_) (fun hc15 => ?_))))))))
  · refine sk k25 (sq fun _ k27 => Wp_block (sq fun _ k28 => rg (Ly rfl (yf rfl Ty.fo_43_5) (Ly rfl (yl 0 Ty.pl_30 st rfl) (Lm rfl ?_)))))
    obtain ⟨gi2, bi2, egi2⟩ := (st.k (i := 0) rfl).addr (fun _ => rfl) (by decide) (q := s4) (by omega) (by omega)
    subst egi2
    refine Ly rfl (y_ixa (q := s4) rfl rfl rfl Ty.es_30 (by omega) (by omega)) ?_
    refine Ly rfl (y_ldk (q := s4) rfl rfl Ty.ag_41 (fun _ e => e ▸ st.k (i := 0) rfl) (fun _ => rfl) (by omega) (by omega)) ?_
    refine La rfl (Scl st hF rfl (r5checkTag_ok _ (ix e.tags s4)) fun w16 st hF => Ly rfl (yne rfl) (Ln k28 (cN rfl (fun hc16 => ?_) (fun hc16 => ?_))))
    · refine sq fun _ k29 => rg (Ls' rfl (Ln k29 (wR (Ib_r (Th_r (Th_r (Ib_r (Th_r (fR (Res1 rfl rfl) ?_)))))))))
      have hret2 : r14checkE_L1 e (((e.tags.length : Int) - (0 : Int)).toNat + 1) (0 : Int) = .inl 2 := by rewrite [← hL1, r14checkE_L1]; rewrite [iP hc15, iN hc16]; rfl
      have he7 : r14checkE_m e = 2 := by unfold r14checkE_m; rewrite [iP hc1, iP hc2, hret2]; (try dsimp only); all_goals rfl
      rewrite [he7]
      exact ⟨rfl, hF⟩
    refine Wp_skip (Ib_n (Th_n (k27 _ _ (rg (Lm rfl (Ly rfl (y_add (c := s4 + 1) rfl rfl rfl (wf_i64 (by first | omega | (simp; done) | (simp; omega)))) ?_))))))
    refine Ls' rfl (Ls_nil (Th_n (?_)))
    exact ⟨fuel, [(1, _), (4, _)], Nat.lt_succ_self _, ⟨rfl, rfl, trivial⟩, (s4 + 1), rfl, ⟨by rewrite [← hL1, r14checkE_L1]; rewrite [iP hc15, iP hc16]; rfl, by omega⟩, by omega, (st.pk [0] (by decide)).pickK [0], hF⟩
  refine Wp_exit (Th_e (Th_e (Ib_hit (Th_n (?_)))))
  exact hout1 _ [(1, _), (4, _)] _ ⟨rfl, rfl, trivial⟩ ⟨s4, rfl, show _ = _ from by rewrite [← hL1, r14checkE_L1]; rewrite [iN hc15]; rfl, by omega, (st.pk [0] (by decide)).pickK [0], hF⟩
end Go.Proofs.YtmenpoicgoijcaaGreat

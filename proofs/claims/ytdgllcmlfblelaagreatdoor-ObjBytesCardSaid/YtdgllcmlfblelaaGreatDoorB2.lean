/- Walks printed by gen2.py out of our own specifications: what the functions named below do. -/
import Derived.Test.YtdgllcmlfblelaaGreatDoorSc
import Derived.Test.YtdgllcmlfblelaaGreatDoorB1
import Derived.Test.YtdgllcmlfblelaaGreatDoorSr
set_option linter.unusedSimpArgs false
set_option linter.unusedVariables false
namespace Go.Proofs.YtdgllcmlfblelaaGreatDoor
open Go.RowKit

structure FltM where
  atF : Int
  e : Int
instance : Inhabited FltM := ⟨⟨default, default⟩⟩
instance : DecidableEq FltM := fun a b => decidable_of_iff (a.atF = b.atF ∧ a.e = b.e) (by cases a; cases b; simp)
def fltMC (x : FltM) : List Value := [.int .i64 x.atF, .int .i64 x.e]
theorem fltMC_len (x : FltM) : (fltMC x).length = 2 := rfl
theorem fltMC_1 (x : FltM) : ∀ v ∈ fltMC x, v.oneCell' = true := all_one rfl
structure RdM where
  s : List UInt8
  a : Int
  f : FltM
instance : Inhabited RdM := ⟨⟨default, default, default⟩⟩
instance : DecidableEq RdM := fun a b => decidable_of_iff (a.s = b.s ∧ a.a = b.a ∧ a.f = b.f) (by cases a; cases b; simp)
def rdMC (x : RdM) : List Value := [sv x.s, .int .i64 x.a, .int .i64 x.f.atF, .int .i64 x.f.e]
theorem rdMC_len (x : RdM) : (rdMC x).length = 4 := rfl
theorem rdMC_1 (x : RdM) : ∀ v ∈ rdMC x, v.oneCell' = true := all_one rfl
def rfail_c1 (t : RdM) (e : Int) : Bool :=
  (if t.f.e = 0 then e != 0 else false)
def rfail_m (t : RdM) (e : Int) : RdM :=
  if (rfail_c1 t e) = true then
    (⟨t.s, t.a, (⟨t.a, e⟩ : FltM)⟩ : RdM)
  else
    t

theorem rfail_c1_iff (t : RdM) (e : Int) : (rfail_c1 t e = true) ↔ ((t.f.e = 0) ∧ (¬ (e = 0))) := by
  unfold rfail_c1; exact (ci2 (by simp))

set_option maxRecDepth 20000 in
theorem rfail_ok (X : List Nat) (w : World) (g_t : Nat) (t : RdM) (e : Int) (hs : St X w [(some g_t, Cl [sv t.s, .int .i64 t.a, .int .i64 t.f.atF, .int .i64 t.f.e] 57)] []) :
    Fn Tryz.prog 45 [.pointer (some ⟨g_t, 0, none⟩), .int .i64 e] w fun v w' => v = .tuple #[] ∧ St X w' [(some g_t, Cl [sv ((rfail_m t e).s), .int .i64 ((rfail_m t e).a), .int .i64 ((rfail_m t e).f.atF), .int .i64 ((rfail_m t e).f.e)] 57)] [] ∧ Fr (keys [(some g_t, Cl [sv t.s, .int .i64 t.a, .int .i64 t.f.atF, .int .i64 t.f.e] 57)]) w w' ∧ (∀ k ∈ keys [(some g_t, Cl [sv ((rfail_m t e).s), .int .i64 ((rfail_m t e).a), .int .i64 ((rfail_m t e).f.atF), .int .i64 ((rfail_m t e).f.e)] 57)], k ∈ (keys [(some g_t, Cl [sv t.s, .int .i64 t.a, .int .i64 t.f.atF, .int .i64 t.f.e] 57)]) ∨ w.heap.size ≤ k) := by
  refine Fn_of 23 Ty.en_45 Tryz.func45 rfl rfl rfl ?_
  dsimp only [argEnv]
  have hs0 := hs
  have st : St X w [(some g_t, Cl [sv t.s, .int .i64 t.a, .int .i64 t.f.atF, .int .i64 t.f.e] 57)] [] := hs
  have hF := Fr.refl (keys [(some g_t, Cl [sv t.s, .int .i64 t.a, .int .i64 t.f.atF, .int .i64 t.f.e] 57)]) w
  refine sq fun _ k1 => ?_
  refine use_out k1 (fun E W => E = [(0, .pointer (some ⟨g_t, 0, none⟩)), (1, .int .i64 e), (13, .bool (rfail_c1 t e))] ∧ St X W (hOf st) (kOf st) ∧ Fr (keys [(some g_t, Cl [sv t.s, .int .i64 t.a, .int .i64 t.f.atF, .int .i64 t.f.e] 57)]) w W) ?_ fun hout1 => ?_
  · rintro E w1 ⟨rfl, st, hF⟩
    have st : St X w1 [_] [] := st
    refine cB rfl (fun hc1 => ?_) (fun hc1 => ?_)
    · have jhc1 := (rfail_c1_iff t e).1 hc1
      refine rg (Lm rfl (Lm rfl (Ly rfl (y_nil rfl rfl) (Ly rfl (yf rfl Ty.fo_57_1) (Ly rfl (yl 0 Ty.pl_3 st rfl) (Lm rfl (Ly rfl (y_build (cells := [_, _]) rfl rfl Ty.zc_55 Ty.ps_55 rfl) (Ly rfl (y_nil rfl rfl) (Ly rfl (yf rfl Ty.fo_57_2) (La rfl (Ssm 0 Ty.sz_55 st hF (by first | exact Or.inr (by omega) | exact Or.inl (kin0 _ _) | exact Or.inl (by simp)) rfl fun w2 (st : St _ _ [(_, Cl [_, _, _, _] _)] _) hF => ?_)))))))))))
      refine Ls_nil (Fq_end (Res0 rfl) ?_)
      unfold rfail_m; rewrite [if_pos hc1]
      exact ⟨rfl, (st.picks [0] (by decide)).pickK [], hF, kc_s (.inl (by simp [keys])) (kc_n)⟩
    have jhc1 := mt (rfail_c1_iff t e).2 hc1
    refine Wp_skip (Fq_end (Res0 rfl) ?_)
    unfold rfail_m; rewrite [if_neg hc1]
    exact ⟨rfl, (st.picks [0] (by decide)).pickK [], hF, kc_s (.inl (by simp [keys])) (kc_n)⟩
  refine rg (Lm rfl (Ly rfl (y_nil rfl rfl) (Ly rfl (yf rfl Ty.fo_57_2) (Ly rfl (yf rfl Ty.fo_55_1) (Ly rfl (yl 0 Ty.pl_45 st rfl) (Ly rfl (yeq rfl) (Lm rfl (bE (s := 10) rfl (fun hc2 => ?_) (fun hc2 => ?_)))))))))
  · refine LyT rfl (y_move rfl rfl) (LyT rfl (yne rfl) (Ly rfl (yT rfl) (Ls_nil (Th_n (?_)))))
    exact hout1 _ [(0, _), (1, _), (13, _)] _ ⟨rfl, rfl, rfl, trivial⟩ ⟨by unfold rfail_c1; rewrite [if_pos hc2]; rfl, (st.picks [0] (by decide)).pickK [], hF⟩
  refine LsF rfl (LsF rfl (Ly rfl (yF rfl) (Ls_nil (Th_n (?_)))))
  exact hout1 _ [(0, _), (1, _), (13, _)] _ ⟨rfl, rfl, rfl, trivial⟩ ⟨by unfold rfail_c1; rewrite [if_neg hc2]; rfl, (st.picks [0] (by decide)).pickK [], hF⟩

/-- A reader's place lies within its bytes. -/
def Rok (t : RdM) : Prop := 0 ≤ t.a ∧ t.a ≤ t.s.length ∧ t.s.length ≤ 1000000 ∧ (t.f.e = 0 → t.f.atF = 0) ∧ 0 ≤ t.f.atF ∧ t.f.atF ≤ 1000000
theorem Rok.b {t : RdM} (h : Rok t) : 0 ≤ t.a ∧ t.a ≤ t.s.length ∧ t.s.length ≤ 1000000 := ⟨h.1, h.2.1, h.2.2.1⟩

theorem rfail_at {t : RdM} {e : Int} (h : t.f.e = 0) (he : ¬ e = 0) : rfail_m t e = ⟨t.s, t.a, ⟨t.a, e⟩⟩ := by
  unfold rfail_m; rw [if_pos ((rfail_c1_iff t e).2 ⟨h, he⟩)]
theorem rfail_ne {t : RdM} {e : Int} (he : ¬ e = 0) : ¬ (rfail_m t e).f.e = 0 := by
  by_cases h : t.f.e = 0
  · rw [rfail_at h he]; exact he
  · unfold rfail_m; rw [if_neg (fun hc => h ((rfail_c1_iff t e).1 hc).1)]; exact h
theorem rfail_rok {t : RdM} {e : Int} (h : Rok t) : Rok (rfail_m t e) := by
  unfold rfail_m
  split
  · rename_i hc
    obtain ⟨_, he⟩ := (rfail_c1_iff t e).1 hc
    have hb := h.b
    exact ⟨h.1, h.2.1, h.2.2.1, fun h0 => absurd h0 he, h.1, by simp only; omega⟩
  · exact h

def rnum_c1 (t : RdM) : Bool :=
  (if 0 < ((ix t.s t.a).toNat : Int) then ((ix t.s (t.a + 1)).toNat : Int) == 0 else false)

def rnum_L1 (t : RdM) : Nat → Int → Int → (Int × RdM) ⊕ (Int × Int)
  | 0, s4, s5 => .inr (s4, s5)
  | fuel + 1, s4, s5 =>
    if s5 ≤ ((ix t.s t.a).toNat : Int) then
      rnum_L1 t fuel ((((s4 * 256) % 18446744073709551616) + ((ix t.s (t.a + s5)).toNat : Int)) % 18446744073709551616) (s5 + 1)
    else
      .inr (s4, s5)
def rnum_m (t : RdM) : Int × RdM :=
  if t.f.e = 0 then
    if t.a = (t.s.length : Int) then
      (0, (rfail_m t 1))
    else
      if 8 < ((ix t.s t.a).toNat : Int) then
        (0, (rfail_m t 3))
      else
        if (((t.s.length : Int) - t.a) - 1) < ((ix t.s t.a).toNat : Int) then
          (0, (rfail_m t 1))
        else
          if (rnum_c1 t) = true then
            (0, (rfail_m t 3))
          else
            match rnum_L1 t (((((ix t.s t.a).toNat : Int) + 1) - (1 : Int)).toNat + 1) (0 : Int) (1 : Int) with
            | .inl r => r
            | .inr (s4, s5) =>
              (s4, (⟨t.s, (t.a + 1) + ((ix t.s t.a).toNat : Int), t.f⟩ : RdM))
  else
    (0, t)

theorem rnum_c1_iff (t : RdM) : (rnum_c1 t = true) ↔ ((0 < ((ix t.s t.a).toNat : Int)) ∧ (((ix t.s (t.a + 1)).toNat : Int) = 0)) := by
  unfold rnum_c1; exact (ci2 beq_iff_eq)

set_option maxRecDepth 20000 in
theorem rnum_ok (X : List Nat) (w : World) (g_t : Nat) (t : RdM) (hs : St X w [(some g_t, Cl [sv t.s, .int .i64 t.a, .int .i64 t.f.atF, .int .i64 t.f.e] 57)] []) (ht : Rok t) :
    Fn Tryz.prog 65 [.pointer (some ⟨g_t, 0, none⟩)] w fun v w' => v = .int .u64 ((rnum_m t).1) ∧ St X w' [(some g_t, Cl [sv (((rnum_m t).2).s), .int .i64 (((rnum_m t).2).a), .int .i64 (((rnum_m t).2).f.atF), .int .i64 (((rnum_m t).2).f.e)] 57)] [] ∧ Fr (keys [(some g_t, Cl [sv t.s, .int .i64 t.a, .int .i64 t.f.atF, .int .i64 t.f.e] 57)]) w w' ∧ (∀ k ∈ keys [(some g_t, Cl [sv (((rnum_m t).2).s), .int .i64 (((rnum_m t).2).a), .int .i64 (((rnum_m t).2).f.atF), .int .i64 (((rnum_m t).2).f.e)] 57)], k ∈ (keys [(some g_t, Cl [sv t.s, .int .i64 t.a, .int .i64 t.f.atF, .int .i64 t.f.e] 57)]) ∨ w.heap.size ≤ k) := by
  refine Fn_of 110 Ty.en_65 Tryz.func65 rfl rfl rfl ?_
  dsimp only [argEnv]
  have hs0 := hs
  have st : St X w [(some g_t, Cl [sv t.s, .int .i64 t.a, .int .i64 t.f.atF, .int .i64 t.f.e] 57)] [] := hs
  have hF := Fr.refl (keys [(some g_t, Cl [sv t.s, .int .i64 t.a, .int .i64 t.f.atF, .int .i64 t.f.e] 57)]) w
  have htb := ht.b
  refine sq fun _ k1 => rg (Ls' rfl (Ln k1 (sq fun _ k2 => sq fun _ k3 => rg (Lm rfl (Ly rfl (y_nil rfl rfl) (Ly rfl (yf rfl Ty.fo_57_2) (Ly rfl (yf rfl Ty.fo_55_1) (Ly rfl (yl 0 Ty.pl_45 st rfl) (Ly rfl (yne rfl) (Ln k3 (cN rfl (fun hc1 => ?_) (fun hc1 => ?_))))))))))))
  · refine sq fun _ k4 => rg (Ls' rfl (Ln k4 (Wp_ret (Th_r (Fq_ret (Res1 rfl rfl) ?_)))))
    unfold rnum_m; rewrite [if_neg hc1]
    exact ⟨rfl, (st.picks [0] (by decide)).pickK [], hF, kc_s (.inl (by simp [keys])) (kc_n)⟩
  refine sk k2 (sq fun _ k5 => sq fun _ k6 => ?_)
  refine Wp_plan (fun W => St X W (pickL (hOf st) [0]) (kOf st)) [(true, 0), (true, 1), (true, 2), (true, 3), (true, 4), (true, 5), (true, 6), (true, 7), (true, 8), (true, 9)] Ty.mx_0 (by kernel_rfl) (by kernel_rfl) rfl ((st.picks [0] (by decide)).drew) ?_
  have st := st.drew
  have hF := hF.step0 (Fr.drew _)
  refine Pm rfl (Py rfl (y_nil rfl rfl) (Py rfl (yf rfl Ty.fo_57_1) (Py rfl (y_load (i := 0) rfl rfl Ty.pl_3 (fun _ h => h.hp) rfl rfl) (Pm rfl (Py rfl (y_nil rfl rfl) (Py rfl (yf rfl Ty.fo_57_0) (Py rfl (y_load (i := 0) rfl rfl Ty.pl_9 (fun _ h => h.hp) rfl rfl) (Py rfl (y_lens rfl rfl Tryz.underlying9) (Py rfl (yeq rfl) (Pl_nil (Th_n (k6 _ _ (cE rfl (fun hc2 => ?_) (fun hc2 => ?_))))))))))))))
  · refine sq fun _ k7 => rg (Lm rfl (La rfl (a_call rfl rfl rfl rfl (rfail_ok (keys (pickL (hOf st) []) ++ X) _ g_t t 1 (st.sub [] [0] [] (by decide))) (fun v w1 ⟨hv, hN1, hfO1, hkc1⟩ => ?_))))
    subst hv
    have st := st.callS [] [0] (by decide) rfl hN1 hfO1 hkc1
    have hF := hF.step hfO1 (kc_s (.inl (by simp [keys])) (kc_n))
    have st : St X w1 [_] [] := st
    have hrk1 : Rok (rfail_m t 1) := rfail_rok (by assumption)
    have hrk1b := hrk1.b
    refine Ln k7 (sq fun _ k8 => rg (Ls' rfl (Ln k8 (Wp_ret (Th_r (Fq_ret (Res1 rfl rfl) ?_))))))
    unfold rnum_m; rewrite [if_pos hc1, if_pos hc2]
    exact ⟨rfl, (st.picks [0] (by decide)).pickK [], hF, kc_s (.inl (by simp [keys])) (kc_n)⟩
  refine sk k5 (sq fun _ k9 => ?_)
  refine Wp_plan (fun W => St X W (pickL (hOf st) [0]) (kOf st)) [(true, 0), (true, 1), (true, 2), (true, 3), (true, 4), (true, 5), (true, 6), (true, 7), (true, 8), (true, 9), (true, 10)] Ty.mx_0 (by kernel_rfl) (by kernel_rfl) rfl ((st.picks [0] (by decide)).drew) ?_
  have st := st.drew
  have hF := hF.step0 (Fr.drew _)
  refine Pm rfl (Py rfl (y_nil rfl rfl) (Py rfl (yf rfl Ty.fo_57_0) (Py rfl (y_load (i := 0) rfl rfl Ty.pl_9 (fun _ h => h.hp) rfl rfl) (Pm rfl (Py rfl (y_nil rfl rfl) (Py rfl (yf rfl Ty.fo_57_1) (Py rfl (y_load (i := 0) rfl rfl Ty.pl_3 (fun _ h => h.hp) rfl rfl) (Py rfl (y_ixs2 (q := t.a) rfl rfl rfl Tryz.underlying9 (by first | omega | (simp; done) | (simp; omega)) (by first | omega | (simp; done) | (simp; omega))) ?_))))))))
  have hby1 := UInt8.toNat_lt (ix t.s t.a)
  refine Py rfl (y_cvi (c := ((ix t.s t.a).toNat : Int)) rfl rfl Tryz.underlying5 Tryz.underlying3 (wf_i64 (by omega))) ?_
  refine Py rfl (y_assign rfl rfl) (Pl_nil (Th_n (k9 _ _ (sq fun _ k10 => Wp_block (sq fun _ k11 => rg (Lm rfl (Ly rfl (ygt rfl) (Ls' rfl (Ln k11 (cD rfl (fun hc3 => ?_) (fun hc3 => ?_)))))))))))
  · refine rg (Lm rfl (La rfl (a_call rfl rfl rfl rfl (rfail_ok (keys (pickL (hOf st) []) ++ X) _ g_t t 3 (st.sub [] [0] [] (by decide))) (fun v w2 ⟨hv, hN2, hfO2, hkc2⟩ => ?_))))
    subst hv
    have st := st.callS [] [0] (by decide) rfl hN2 hfO2 hkc2
    have hF := hF.step hfO2 (kc_s (.inl (by simp [keys])) (kc_n))
    have st : St X w2 [_] [] := st
    have hrk2 : Rok (rfail_m t 3) := rfail_rok (by assumption)
    have hrk2b := hrk2.b
    refine Ls_nil (Ib_n (Th_n (k10 _ _ (sq fun _ k12 => sq fun _ k13 => rg (Lm rfl (Ly rfl (y_nil rfl rfl) (Ly rfl (yf rfl Ty.fo_57_2) (Ly rfl (yf rfl Ty.fo_55_1) (Ly rfl (yl 0 Ty.pl_45 st rfl) (Ly rfl (yne rfl) (Ln k13 ?_)))))))))))
    have hd1 : ¬ (((rfail_m t 3).f.e) = 0) := by
      exact rfail_ne (by decide)
    refine Wp_cond rfl (fun _ => ?_) (fun hc4 => absurd hc4 (by first | (simp [hd1]; done) | (rw [hd1]; simp; done) | simpa using hd1))
    refine sq fun _ k14 => rg (Ls' rfl (Ln k14 (Wp_ret (Th_r (Fq_ret (Res1 rfl rfl) ?_)))))
    unfold rnum_m; rewrite [if_pos hc1, if_neg hc2, if_pos hc3]
    exact ⟨rfl, (st.picks [0] (by decide)).pickK [], hF, kc_s (.inl (by simp [keys])) (kc_n)⟩
  refine sq fun _ k15 => ?_
  refine Wp_plan (fun W => St X W (pickL (hOf st) [0]) (kOf st)) [(true, 0), (true, 1), (true, 2), (true, 3), (true, 4), (true, 5), (true, 6), (true, 7), (true, 8), (true, 9), (true, 10), (true, 11), (true, 12), (true, 13)] Ty.mx_0 (by kernel_rfl) (by kernel_rfl) rfl ((st.picks [0] (by decide)).drew) ?_
  have st := st.drew
  have hF := hF.step0 (Fr.drew _)
  refine Pm rfl (Py rfl (y_nil rfl rfl) (Py rfl (yf rfl Ty.fo_57_0) (Py rfl (y_load (i := 0) rfl rfl Ty.pl_9 (fun _ h => h.hp) rfl rfl) (Py rfl (y_lens rfl rfl Tryz.underlying9) (Pm rfl (Py rfl (y_nil rfl rfl) (Py rfl (yf rfl Ty.fo_57_1) (Py rfl (y_load (i := 0) rfl rfl Ty.pl_3 (fun _ h => h.hp) rfl rfl) (Py rfl (y_sub (c := (t.s.length : Int) - t.a) rfl rfl rfl (wf_i64 (by first | omega | (simp; done) | (simp; omega)))) ?_)))))))))
  refine Py rfl (y_sub (c := ((t.s.length : Int) - t.a) - 1) rfl rfl rfl (wf_i64 (by first | omega | (simp; done) | (simp; omega)))) ?_
  refine Pm rfl (Py rfl (ylt rfl) (Py rfl (y_assign rfl rfl) (Pl_nil (Th_n (k15 _ _ (cD rfl (fun hc5 => ?_) (fun hc5 => ?_)))))))
  · refine rg (Lm rfl (La rfl (a_call rfl rfl rfl rfl (rfail_ok (keys (pickL (hOf st) []) ++ X) _ g_t t 1 (st.sub [] [0] [] (by decide))) (fun v w3 ⟨hv, hN3, hfO3, hkc3⟩ => ?_))))
    subst hv
    have st := st.callS [] [0] (by decide) rfl hN3 hfO3 hkc3
    have hF := hF.step hfO3 (kc_s (.inl (by simp [keys])) (kc_n))
    have st : St X w3 [_] [] := st
    have hrk3 : Rok (rfail_m t 1) := rfail_rok (by assumption)
    have hrk3b := hrk3.b
    refine Ls_nil (Ib_n (Th_n (k10 _ _ (sq fun _ k16 => sq fun _ k17 => rg (Lm rfl (Ly rfl (y_nil rfl rfl) (Ly rfl (yf rfl Ty.fo_57_2) (Ly rfl (yf rfl Ty.fo_55_1) (Ly rfl (yl 0 Ty.pl_45 st rfl) (Ly rfl (yne rfl) (Ln k17 ?_)))))))))))
    have hd2 : ¬ (((rfail_m t 1).f.e) = 0) := by
      exact rfail_ne (by decide)
    refine Wp_cond rfl (fun _ => ?_) (fun hc6 => absurd hc6 (by first | (simp [hd2]; done) | (rw [hd2]; simp; done) | simpa using hd2))
    refine sq fun _ k18 => rg (Ls' rfl (Ln k18 (Wp_ret (Th_r (Fq_ret (Res1 rfl rfl) ?_)))))
    unfold rnum_m; rewrite [if_pos hc1, if_neg hc2, if_neg hc3, if_pos hc5]
    exact ⟨rfl, (st.picks [0] (by decide)).pickK [], hF, kc_s (.inl (by simp [keys])) (kc_n)⟩
  refine sq fun _ k19 => ?_
  refine use_out k19 (fun E W => E = [(0, .pointer (some ⟨g_t, 0, none⟩)), (3, .int .i64 ((ix t.s t.a).toNat : Int)), (55, .bool (rnum_c1 t))] ∧ St X W (hOf st) (kOf st) ∧ Fr (keys [(some g_t, Cl [sv t.s, .int .i64 t.a, .int .i64 t.f.atF, .int .i64 t.f.e] 57)]) w W) ?_ fun hout1 => ?_
  · rintro E w4 ⟨rfl, st, hF⟩
    have st : St X w4 [_] [] := st
    refine cB rfl (fun hc7 => ?_) (fun hc7 => ?_)
    · have jhc7 := (rnum_c1_iff t).1 hc7
      refine rg (Lm rfl (La rfl (a_call rfl rfl rfl rfl (rfail_ok (keys (pickL (hOf st) []) ++ X) _ g_t t 3 (st.sub [] [0] [] (by decide))) (fun v w5 ⟨hv, hN4, hfO4, hkc4⟩ => ?_))))
      subst hv
      have st := st.callS [] [0] (by decide) rfl hN4 hfO4 hkc4
      have hF := hF.step hfO4 (kc_s (.inl (by simp [keys])) (kc_n))
      have st : St X w5 [_] [] := st
      have hrk4 : Rok (rfail_m t 3) := rfail_rok (by assumption)
      have hrk4b := hrk4.b
      refine Ls_nil (Ib_n (Th_n (k10 _ _ (sq fun _ k20 => sq fun _ k21 => rg (Lm rfl (Ly rfl (y_nil rfl rfl) (Ly rfl (yf rfl Ty.fo_57_2) (Ly rfl (yf rfl Ty.fo_55_1) (Ly rfl (yl 0 Ty.pl_45 st rfl) (Ly rfl (yne rfl) (Ln k21 ?_)))))))))))
      have hd3 : ¬ (((rfail_m t 3).f.e) = 0) := by
        exact rfail_ne (by decide)
      refine Wp_cond rfl (fun _ => ?_) (fun hc8 => absurd hc8 (by first | (simp [hd3]; done) | (rw [hd3]; simp; done) | simpa using hd3))
      refine sq fun _ k22 => rg (Ls' rfl (Ln k22 (Wp_ret (Th_r (Fq_ret (Res1 rfl rfl) ?_)))))
      unfold rnum_m; rewrite [if_pos hc1, if_neg hc2, if_neg hc3, if_neg hc5, if_pos hc7]
      exact ⟨rfl, (st.picks [0] (by decide)).pickK [], hF, kc_s (.inl (by simp [keys])) (kc_n)⟩
    have jhc7 := mt (rnum_c1_iff t).2 hc7
    refine Wp_skip (Ib_n (Th_n (k10 _ _ (sq fun _ k23 => sq fun _ k24 => rg (Lm rfl (Ly rfl (y_nil rfl rfl) (Ly rfl (yf rfl Ty.fo_57_2) (Ly rfl (yf rfl Ty.fo_55_1) (Ly rfl (yl 0 Ty.pl_45 st rfl) (Ly rfl (yne rfl) (Ln k24 (Wp_cond rfl (fun hc9 => absurd hc9 (by simp [hc1])) (fun _ => ?_)))))))))))))
    refine sk k23 (sq fun _ k25 => rg (Ls' rfl (Ln k25 (sq fun _ k26 => sq fun _ k27 => rg (Ls' rfl (Ln k27 (Wp_block (lp (fun q E W => ∃ (s4 : Int) (s5 : Int), E = [(0, .pointer (some ⟨g_t, 0, none⟩)), (3, .int .i64 ((ix t.s t.a).toNat : Int)), (4, .int .u64 s4), (5, .int .i64 s5)] ∧ jq q (fun m => (rnum_L1 t m s4 s5 = rnum_L1 t (((((ix t.s t.a).toNat : Int) + 1) - (1 : Int)).toNat + 1) (0 : Int) (1 : Int) ∧ ((((ix t.s t.a).toNat : Int) + 1) - s5).toNat < m)) (rnum_L1 t (((((ix t.s t.a).toNat : Int) + 1) - (1 : Int)).toNat + 1) (0 : Int) (1 : Int) = .inr (s4, s5)) ∧ (1 ≤ s5) ∧ St X W [(some g_t, Cl [sv t.s, .int .i64 t.a, .int .i64 t.f.atF, .int .i64 t.f.e] 57)] [] ∧ Fr (keys [(some g_t, Cl [sv t.s, .int .i64 t.a, .int .i64 t.f.atF, .int .i64 t.f.e] 57)]) w W) (((((ix t.s t.a).toNat : Int) + 1) - (1 : Int)).toNat + 1) [(0, _), (3, _), (4, _), (5, _)] ⟨rfl, rfl, rfl, rfl, trivial⟩ ⟨_, _, rfl, ⟨rfl, Nat.lt_succ_self _⟩, by first | omega | (simp; done) | (simp; omega), st, hF⟩ k26 ?_ fun hout2 => ?_))))))))
    · rintro E w6 ⟨s4, s5, rfl, hLk1, hinv, st, hF⟩
      unfold jq at hLk1; dsimp only at hLk1
      refine sq fun _ k28 => rg (Lm rfl (Lm rfl (Ly rfl (y_nil rfl rfl) (Ly rfl (yf rfl Ty.fo_57_1) (Ly rfl (yl 0 Ty.pl_3 st rfl) (Ly rfl (y_add (c := t.a + 1) rfl rfl rfl (wf_i64 (by first | omega | (simp; done) | (simp; omega)))) ?_))))))
      refine Lm rfl (Ly rfl (y_add (c := (t.a + 1) + ((ix t.s t.a).toNat : Int)) rfl rfl rfl (wf_i64 (by first | omega | (simp; done) | (simp; omega)))) ?_)
      refine Ly rfl (y_nil rfl rfl) (Ly rfl (yf rfl Ty.fo_57_1) (La rfl (Ss1 0 Ty.sz_3 st hF (by first | exact Or.inr (by omega) | exact Or.inl (kin0 _ _) | exact Or.inl (by simp)) rfl fun w7 (st : St _ _ [(_, Cl [_, _, _, _] _)] _) hF => ?_)))
      refine Ln k28 (sq fun _ k29 => rg (Lm rfl (Ls' rfl (Ln k29 (Wp_ret (Fq_ret (Res1 rfl rfl) ?_))))))
      unfold rnum_m; rewrite [if_pos hc1, if_neg hc2, if_neg hc3, if_neg hc5, if_neg hc7, hLk1]; (try dsimp only)
      exact ⟨rfl, (st.picks [0] (by decide)).pickK [], hF, kc_s (.inl (by simp [keys])) (kc_n)⟩
    rintro m E w8 ⟨s4, s5, rfl, ⟨hL1, hmu⟩, hinv, st, hF⟩
    obtain ⟨fuel, rfl⟩ : ∃ q, m = q + 1 := ⟨m - 1, by omega⟩
    refine sq fun _ k30 => sq fun _ k31 => rg (Lm rfl (Lm rfl (Ly rfl (yle rfl) (Ln k31 (cD rfl (fun hc10 => ?_) (fun hc10 => ?_))))))
    · refine sk k30 (sq fun _ k32 => Wp_block ?_)
      refine Wp_plan (fun W => St X W (pickL (hOf st) [0]) (kOf st)) [(true, 0), (true, 1), (true, 2), (true, 3), (true, 4), (true, 5), (true, 6), (true, 7), (true, 8), (true, 9), (true, 10), (true, 11), (true, 12), (true, 13), (true, 14), (true, 15)] Ty.mx_0 (by kernel_rfl) (by kernel_rfl) rfl ((st.picks [0] (by decide)).drew) ?_
      have st := st.drew
      have hF := hF.step0 (Fr.drew _)
      refine Pm rfl (Py rfl (y_mul (c := (s4 * 256) % 18446744073709551616) rfl rfl rfl wm_u64) (Pm rfl (Py rfl (y_nil rfl rfl) (Py rfl (yf rfl Ty.fo_57_0) (Py rfl (y_load (i := 0) rfl rfl Ty.pl_9 (fun _ h => h.hp) rfl rfl) (Pm rfl (Py rfl (y_nil rfl rfl) (Py rfl (yf rfl Ty.fo_57_1) (Py rfl (y_load (i := 0) rfl rfl Ty.pl_3 (fun _ h => h.hp) rfl rfl) (Pm rfl (Py rfl (y_add (c := t.a + s5) rfl rfl rfl (wf_i64 (by first | omega | (simp; done) | (simp; omega)))) ?_)))))))))))
      refine Py rfl (y_ixs2 (q := t.a + s5) rfl rfl rfl Tryz.underlying9 (by first | omega | (simp; done) | (simp; omega)) (by first | omega | (simp; done) | (simp; omega))) ?_
      have hby2 := UInt8.toNat_lt (ix t.s (t.a + s5))
      refine Py rfl (y_cvi (c := ((ix t.s (t.a + s5)).toNat : Int)) rfl rfl Tryz.underlying5 Tryz.underlying72 (wf_u64 (by omega))) ?_
      refine Py rfl (y_add (c := (((s4 * 256) % 18446744073709551616) + ((ix t.s (t.a + s5)).toNat : Int)) % 18446744073709551616) rfl rfl rfl wm_u64) (Py rfl (y_assign rfl rfl) (Pl_nil (Ib_n (Th_n (k32 _ _ (rg (Lm rfl (Ly rfl (y_add (c := s5 + 1) rfl rfl rfl (wf_i64 (by first | omega | (simp; done) | (simp; omega)))) ?_))))))))
      refine Ls' rfl (Ls_nil (Th_n (?_)))
      exact ⟨fuel, [(0, _), (3, _), (4, _), (5, _)], Nat.lt_succ_self _, ⟨rfl, rfl, rfl, rfl, trivial⟩, ((((s4 * 256) % 18446744073709551616) + ((ix t.s (t.a + s5)).toNat : Int)) % 18446744073709551616), (s5 + 1), rfl, ⟨by rewrite [← hL1, rnum_L1]; rewrite [if_pos hc10]; rfl, by first | omega | (simp; done) | (simp; omega)⟩, by first | omega | (simp; done) | (simp; omega), (st.picks [0] (by decide)).pickK [], hF⟩
    refine Wp_exit (Th_e (Th_e (Ib_hit (Th_n (?_)))))
    exact hout2 _ [(0, _), (3, _), (4, _), (5, _)] _ ⟨rfl, rfl, rfl, rfl, trivial⟩ ⟨s4, s5, rfl, show _ = _ from by rewrite [← hL1, rnum_L1]; rewrite [if_neg hc10]; rfl, by first | omega | (simp; done) | (simp; omega), (st.picks [0] (by decide)).pickK [], hF⟩
  refine Wp_plan (fun W => St X W (pickL (hOf st) [0]) (kOf st)) [(true, 0), (true, 1), (true, 2), (true, 3), (true, 4), (true, 5), (true, 6), (true, 7), (true, 8), (true, 9), (true, 10), (true, 11), (true, 12), (true, 13), (true, 14), (true, 15)] Ty.mx_0 (by kernel_rfl) (by kernel_rfl) rfl ((st.picks [0] (by decide)).drew) ?_
  have st := st.drew
  have hF := hF.step0 (Fr.drew _)
  refine Pm rfl (Py rfl (ygt rfl) (Pm rfl (Pl_bool 58 rfl (fun hc11 => ?_) (fun hc11 => ?_))))
  · have hc11 := dT hc11
    refine Pl_y rfl (wtdT rfl rfl rfl) rfl rfl (y_move rfl rfl) (Pl_y rfl (wtdT rfl rfl rfl) rfl rfl (y_nil rfl rfl) (Pl_y rfl (wtdT rfl rfl rfl) rfl rfl (yf rfl Ty.fo_57_0) (Pl_y rfl (wtdT rfl rfl rfl) rfl rfl (y_load (i := 0) rfl rfl Ty.pl_9 (fun _ h => h.hp) rfl rfl) (Pl_y rfl (wtdT rfl rfl rfl) rfl rfl (y_move rfl rfl) (Pl_y rfl (wtdT rfl rfl rfl) rfl rfl (y_nil rfl rfl) (Pl_y rfl (wtdT rfl rfl rfl) rfl rfl (yf rfl Ty.fo_57_1) (Pl_y rfl (wtdT rfl rfl rfl) rfl rfl (y_load (i := 0) rfl rfl Ty.pl_3 (fun _ h => h.hp) rfl rfl) (Pl_y rfl (wtdT rfl rfl rfl) rfl rfl (y_add (c := t.a + 1) rfl rfl rfl (wf_i64 (by first | omega | (simp; done) | (simp; omega)))) ?_))))))))
    refine Pl_y rfl (wtdT rfl rfl rfl) rfl rfl (y_ixs2 (q := t.a + 1) rfl rfl rfl Tryz.underlying9 (by first | omega | (simp; done) | (simp; omega)) (by first | omega | (simp; done) | (simp; omega))) ?_
    refine Pl_y rfl (wtdT rfl rfl rfl) rfl rfl (yeq rfl) (Py rfl (yT rfl) (Py rfl (y_assign rfl rfl) (Pl_nil (Th_n (?_)))))
    exact hout1 _ [(0, _), (3, _), (55, _)] _ ⟨rfl, rfl, rfl, trivial⟩ ⟨by unfold rnum_c1; rewrite [if_pos hc11]; rfl, (st.picks [0] (by decide)).pickK [], hF⟩
  have hc11 := dF hc11
  refine Pl_s rfl (wtdF rfl rfl rfl) rfl rfl (Pl_s rfl (wtdF rfl rfl rfl) rfl rfl (Pl_s rfl (wtdF rfl rfl rfl) rfl rfl (Pl_s rfl (wtdF rfl rfl rfl) rfl rfl (Pl_s rfl (wtdF rfl rfl rfl) rfl rfl (Pl_s rfl (wtdF rfl rfl rfl) rfl rfl (Pl_s rfl (wtdF rfl rfl rfl) rfl rfl (Pl_s rfl (wtdF rfl rfl rfl) rfl rfl (Pl_s rfl (wtdF rfl rfl rfl) rfl rfl (Pl_s rfl (wtdF rfl rfl rfl) rfl rfl (Pl_s rfl (wtdF rfl rfl rfl) rfl rfl (Py rfl (yF rfl) (Py rfl (y_assign rfl rfl) (Pl_nil (Th_n (?_)))))))))))))))
  exact hout1 _ [(0, _), (3, _), (55, _)] _ ⟨rfl, rfl, rfl, trivial⟩ ⟨by unfold rnum_c1; rewrite [if_neg hc11]; rfl, (st.picks [0] (by decide)).pickK [], hF⟩

theorem rnum_L1_inr (t : RdM) : ∀ (fuel : Nat) (a b : Int), 0 ≤ a ∧ a < 18446744073709551616 → ∃ c d, rnum_L1 t fuel a b = .inr (c, d) ∧ 0 ≤ c ∧ c < 18446744073709551616
  | 0, a, b, h => ⟨a, b, rfl, h⟩
  | fuel + 1, a, b, h => by
    rw [rnum_L1]
    split
    · exact rnum_L1_inr t fuel _ _ (by omega)
    · exact ⟨a, b, rfl, h⟩
/-- What a reader does when it is asked for a number: it fails where it stands, or stays as it is (it has failed), or goes on by 1 + k bytes. -/
theorem rnum_cases {t : RdM} (h : Rok t) : (rnum_m t = (0, t) ∧ ¬ t.f.e = 0) ∨ (∃ k, rnum_m t = (0, ⟨t.s, t.a, ⟨t.a, k⟩⟩) ∧ t.f.e = 0 ∧ (k = 1 ∨ k = 3)) ∨ (∃ v k, rnum_m t = (v, ⟨t.s, t.a + 1 + k, t.f⟩) ∧ t.f.e = 0 ∧ 0 ≤ k ∧ t.a + 1 + k ≤ t.s.length ∧ 0 ≤ v ∧ v < 18446744073709551616) := by
  have hb := h.b
  unfold rnum_m
  split
  · rename_i h0
    have e1 := rfail_at (t := t) (e := 1) h0 (by decide)
    have e3 := rfail_at (t := t) (e := 3) h0 (by decide)
    split
    · exact .inr (.inl ⟨1, by rw [e1], h0, .inl rfl⟩)
    split
    · exact .inr (.inl ⟨3, by rw [e3], h0, .inr rfl⟩)
    split
    · exact .inr (.inl ⟨1, by rw [e1], h0, .inl rfl⟩)
    split
    · exact .inr (.inl ⟨3, by rw [e3], h0, .inr rfl⟩)
    · obtain ⟨c, d, e, h1, h2⟩ := rnum_L1_inr t (((((ix t.s t.a).toNat : Int) + 1) - (1 : Int)).toNat + 1) 0 1 (by decide)
      rw [e]
      exact .inr (.inr ⟨c, _, rfl, h0, by omega, by omega, h1, h2⟩)
  · rename_i h0
    exact .inl ⟨rfl, h0⟩
theorem rnum_rok {t : RdM} (h : Rok t) : Rok (rnum_m t).2 := by
  have hb := h.b
  rcases rnum_cases h with ⟨e, h0⟩ | ⟨k, e, h0, hk⟩ | ⟨v, k, e, h0, h1, h2, _⟩
  · rw [e]; exact h
  · rw [e]; exact ⟨h.1, h.2.1, h.2.2.1, fun hk0 => by simp only at hk0; omega, h.1, by simp only; omega⟩
  · rw [e]; exact ⟨by simp only; omega, by simp only; omega, h.2.2.1, h.2.2.2⟩
theorem rnum_s {t : RdM} (h : Rok t) : (rnum_m t).2.s = t.s := by
  rcases rnum_cases h with ⟨e, h0⟩ | ⟨k, e, h0, hk⟩ | ⟨v, k, e, h0, h1, h2, _⟩ <;> rw [e]
theorem rnum_back {t : RdM} (h : Rok t) : Rok (⟨((rnum_m t).2).s, t.a, ((rnum_m t).2).f⟩ : RdM) := by
  have h1 := rnum_rok h
  have e := rnum_s h
  exact ⟨h.1, by simp only [e]; exact h.2.1, by simp only [e]; exact h.2.2.1, h1.2.2.2⟩
theorem rnum_v {t : RdM} (h : Rok t) : 0 ≤ (rnum_m t).1 ∧ (rnum_m t).1 < 18446744073709551616 := by
  rcases rnum_cases h with ⟨e, h0⟩ | ⟨k, e, h0, hk⟩ | ⟨v, k, e, h0, h1, h2, h3⟩ <;> rw [e]
  · exact ⟨Int.le_refl _, by simp only; decide⟩
  · exact ⟨Int.le_refl _, by simp only; decide⟩
  · exact h3

def rint_c1 (t : RdM) (most : Int) : Bool :=
  (if (((rnum_m t).2).f.e) = 0 then (if most < 0 then true else decide ((most % 18446744073709551616) < ((rnum_m t).1))) else false)
def rint_m (t : RdM) (most : Int) : Int × RdM :=
  if (rint_c1 t most) = true then
    (0, (rfail_m (⟨((rnum_m t).2).s, t.a, ((rnum_m t).2).f⟩ : RdM) 2))
  else
    if (((rnum_m t).2).f.e) = 0 then
      (IntKind.i64.wrap ((rnum_m t).1), ((rnum_m t).2))
    else
      (0, ((rnum_m t).2))

theorem rint_c1_iff (t : RdM) (most : Int) : (rint_c1 t most = true) ↔ (((((rnum_m t).2).f.e) = 0) ∧ ((most < 0) ∨ ((most % 18446744073709551616) < ((rnum_m t).1)))) := by
  unfold rint_c1; exact (ci2 (ci1 decide_eq_true_iff))

set_option maxRecDepth 20000 in
theorem rint_ok (X : List Nat) (w : World) (g_t : Nat) (t : RdM) (most : Int) (hs : St X w [(some g_t, Cl [sv t.s, .int .i64 t.a, .int .i64 t.f.atF, .int .i64 t.f.e] 57)] []) (ht : Rok t) (hm : most < 9223372036854775808) :
    Fn Tryz.prog 40 [.pointer (some ⟨g_t, 0, none⟩), .int .i64 most] w fun v w' => v = .int .i64 ((rint_m t most).1) ∧ St X w' [(some g_t, Cl [sv (((rint_m t most).2).s), .int .i64 (((rint_m t most).2).a), .int .i64 (((rint_m t most).2).f.atF), .int .i64 (((rint_m t most).2).f.e)] 57)] [] ∧ Fr (keys [(some g_t, Cl [sv t.s, .int .i64 t.a, .int .i64 t.f.atF, .int .i64 t.f.e] 57)]) w w' ∧ (∀ k ∈ keys [(some g_t, Cl [sv (((rint_m t most).2).s), .int .i64 (((rint_m t most).2).a), .int .i64 (((rint_m t most).2).f.atF), .int .i64 (((rint_m t most).2).f.e)] 57)], k ∈ (keys [(some g_t, Cl [sv t.s, .int .i64 t.a, .int .i64 t.f.atF, .int .i64 t.f.e] 57)]) ∨ w.heap.size ≤ k) := by
  refine Fn_of 43 Ty.en_40 Tryz.func40 rfl rfl rfl ?_
  dsimp only [argEnv]
  have hs0 := hs
  have st : St X w [(some g_t, Cl [sv t.s, .int .i64 t.a, .int .i64 t.f.atF, .int .i64 t.f.e] 57)] [] := hs
  have hF := Fr.refl (keys [(some g_t, Cl [sv t.s, .int .i64 t.a, .int .i64 t.f.atF, .int .i64 t.f.e] 57)]) w
  have htb := ht.b
  have hq := rnum_back ht
  refine sq fun _ k1 => rg (Ls' rfl (Ln k1 (sq fun _ k2 => rg (Lm rfl (Ly rfl (y_nil rfl rfl) (Ly rfl (yf rfl Ty.fo_57_1) (Ly rfl (yl 0 Ty.pl_3 st rfl) (Ls' rfl (Ln k2 (sq fun _ k3 => rg (Lm rfl (La rfl (a_call rfl rfl rfl rfl (rnum_ok (keys (pickL (hOf st) []) ++ X) _ g_t t (st.sub [] [0] [] (by decide)) (by assumption)) (fun v w1 ⟨hv, hN1, hfO1, hkc1⟩ => ?_))))))))))))))
  subst hv
  have st := st.callS [] [0] (by decide) rfl hN1 hfO1 hkc1
  have hF := hF.step hfO1 (kc_s (.inl (by simp [keys])) (kc_n))
  have st : St X w1 [_] [] := st
  have hrk1 : Rok ((rnum_m t).2) := rnum_rok (by assumption)
  have hrk1b := hrk1.b
  refine Ls' rfl (Ln k3 (sq fun _ k4 => sq fun _ k5 => ?_))
  refine use_out k5 (fun E W => E = [(0, .pointer (some ⟨g_t, 0, none⟩)), (5, .int .i64 t.a), (6, .int .u64 ((rnum_m t).1)), (28, .bool (rint_c1 t most))] ∧ St X W (hOf st) (kOf st) ∧ Fr (keys [(some g_t, Cl [sv t.s, .int .i64 t.a, .int .i64 t.f.atF, .int .i64 t.f.e] 57)]) w W) ?_ fun hout1 => ?_
  · rintro E w2 ⟨rfl, st, hF⟩
    have st : St X w2 [_] [] := st
    refine cB rfl (fun hc1 => ?_) (fun hc1 => ?_)
    · have jhc1 := (rint_c1_iff t most).1 hc1
      refine sq fun _ k6 => rg (Lm rfl (Lm rfl (Ly rfl (y_nil rfl rfl) (Ly rfl (yf rfl Ty.fo_57_1) (La rfl (Ss1 0 Ty.sz_3 st hF (by first | exact Or.inr (by omega) | exact Or.inl (kin0 _ _) | exact Or.inl (by simp)) rfl fun w3 (st : St _ _ [(_, Cl [_, _, _, _] _)] _) hF => ?_))))))
      refine Ln k6 (rg (Lm rfl (La rfl (a_call rfl rfl rfl rfl (rfail_ok (keys (pickL (hOf st) []) ++ X) _ g_t (⟨((rnum_m t).2).s, t.a, ((rnum_m t).2).f⟩ : RdM) 2 (st.sub [] [0] [] (by decide))) (fun v w4 ⟨hv, hN2, hfO2, hkc2⟩ => ?_)))))
      subst hv
      have st := st.callS [] [0] (by decide) rfl hN2 hfO2 hkc2
      have hF := hF.step hfO2 (kc_s (.inl (by simp [keys])) (kc_n))
      have st : St X w4 [_] [] := st
      have hrk2 : Rok (rfail_m (⟨((rnum_m t).2).s, t.a, ((rnum_m t).2).f⟩ : RdM) 2) := rfail_rok (by assumption)
      have hrk2b := hrk2.b
      refine Ln k4 (sq fun _ k7 => sq fun _ k8 => rg (Lm rfl (Ly rfl (y_nil rfl rfl) (Ly rfl (yf rfl Ty.fo_57_2) (Ly rfl (yf rfl Ty.fo_55_1) (Ly rfl (yl 0 Ty.pl_45 st rfl) (Ly rfl (yne rfl) (Ln k8 ?_))))))))
      have hd1 : ¬ (((rfail_m (⟨((rnum_m t).2).s, t.a, ((rnum_m t).2).f⟩ : RdM) 2).f.e) = 0) := by
        exact rfail_ne (by decide)
      refine Wp_cond rfl (fun _ => ?_) (fun hc2 => absurd hc2 (by first | (simp [hd1]; done) | (rw [hd1]; simp; done) | simpa using hd1))
      refine sq fun _ k9 => rg (Ls' rfl (Ln k9 (Wp_ret (Th_r (Fq_ret (Res1 rfl rfl) ?_)))))
      unfold rint_m; rewrite [if_pos hc1]
      exact ⟨rfl, (st.picks [0] (by decide)).pickK [], hF, kc_s (.inl (by simp [keys])) (kc_n)⟩
    have jhc1 := mt (rint_c1_iff t most).2 hc1
    refine sk k4 (sq fun _ k10 => sq fun _ k11 => rg (Lm rfl (Ly rfl (y_nil rfl rfl) (Ly rfl (yf rfl Ty.fo_57_2) (Ly rfl (yf rfl Ty.fo_55_1) (Ly rfl (yl 0 Ty.pl_45 st rfl) (Ly rfl (yne rfl) (Ln k11 (cN rfl (fun hc3 => ?_) (fun hc3 => ?_))))))))))
    · refine sq fun _ k12 => rg (Ls' rfl (Ln k12 (Wp_ret (Th_r (Fq_ret (Res1 rfl rfl) ?_)))))
      unfold rint_m; rewrite [if_neg hc1, if_neg hc3]
      exact ⟨rfl, (st.picks [0] (by decide)).pickK [], hF, kc_s (.inl (by simp [keys])) (kc_n)⟩
    refine sk k10 (sq fun _ k13 => rg (Lm rfl (Ly rfl (y_cvi (c := IntKind.i64.wrap ((rnum_m t).1)) rfl rfl Tryz.underlying72 Tryz.underlying3 rfl) (Ls' rfl (Ln k13 (Wp_ret (Fq_ret (Res1 rfl rfl) ?_)))))))
    unfold rint_m; rewrite [if_neg hc1, if_pos hc3]
    exact ⟨rfl, (st.picks [0] (by decide)).pickK [], hF, kc_s (.inl (by simp [keys])) (kc_n)⟩
  refine rg (Lm rfl (Ly rfl (y_nil rfl rfl) (Ly rfl (yf rfl Ty.fo_57_2) (Ly rfl (yf rfl Ty.fo_55_1) (Ly rfl (yl 0 Ty.pl_45 st rfl) (Ly rfl (yeq rfl) (Lm rfl (bE (s := 19) rfl (fun hc4 => ?_) (fun hc4 => ?_)))))))))
  · refine LyT rfl (y_move rfl rfl) (LyT rfl (ylt rfl) (LyT rfl (y_move rfl rfl) (bD (s := 22) rfl (fun hc5 => ?_) (fun hc5 => ?_))))
    · refine LsF rfl (LsF rfl (LsF rfl (LsF rfl (LyT rfl (yT rfl) (Ly rfl (yT rfl) (Ls_nil (Th_n (?_))))))))
      exact hout1 _ [(0, _), (5, _), (6, _), (28, _)] _ ⟨rfl, rfl, rfl, rfl, trivial⟩ ⟨by unfold rint_c1; rewrite [if_pos hc4, if_pos hc5]; rfl, (st.picks [0] (by decide)).pickK [], hF⟩
    refine LyT rfl (y_move rfl rfl) (LyT rfl (y_move rfl rfl) (LyT rfl (y_cvi (c := most % 18446744073709551616) rfl rfl Tryz.underlying3 Tryz.underlying72 wm_u64) (LyT rfl (ygt rfl) (LyT rfl (yF rfl) (Ly rfl (yT rfl) (Ls_nil (Th_n (?_))))))))
    exact hout1 _ [(0, _), (5, _), (6, _), (28, _)] _ ⟨rfl, rfl, rfl, rfl, trivial⟩ ⟨by unfold rint_c1; rewrite [if_pos hc4, if_neg hc5]; rfl, (st.picks [0] (by decide)).pickK [], hF⟩
  refine LsF rfl (LsF rfl (LsF rfl (LsU rfl (LsU rfl (LsU rfl (LsU rfl (LsF rfl (Ly rfl (yF rfl) (Ls_nil (Th_n (?_)))))))))))
  exact hout1 _ [(0, _), (5, _), (6, _), (28, _)] _ ⟨rfl, rfl, rfl, rfl, trivial⟩ ⟨by unfold rint_c1; rewrite [if_neg hc4]; rfl, (st.picks [0] (by decide)).pickK [], hF⟩

/-- What a reader does when it is asked for a number of at most m. -/
theorem rint_cases {t : RdM} {m : Int} (h : Rok t) (hm : m < 9223372036854775808) : (rint_m t m = (0, t) ∧ ¬ t.f.e = 0) ∨ (∃ k, rint_m t m = (0, ⟨t.s, t.a, ⟨t.a, k⟩⟩) ∧ t.f.e = 0 ∧ ¬ k = 0) ∨ (∃ v k, rint_m t m = (v, ⟨t.s, t.a + 1 + k, t.f⟩) ∧ t.f.e = 0 ∧ 0 ≤ k ∧ t.a + 1 + k ≤ t.s.length ∧ 0 ≤ v ∧ v ≤ m) := by
  have hb := h.b
  have hi := rint_c1_iff t m
  unfold rint_m
  rcases rnum_cases h with ⟨e, h0⟩ | ⟨k, e, h0, hk⟩ | ⟨v, k, e, h0, h1, h2, h3, h4⟩
  · rw [e] at hi ⊢
    rw [if_neg (fun hc => h0 (hi.1 hc).1), if_neg h0]
    exact .inl ⟨rfl, h0⟩
  · rw [e] at hi ⊢
    rw [if_neg (fun hc => by have := (hi.1 hc).1; simp only at this; omega), if_neg (by simp only; omega)]
    exact .inr (.inl ⟨k, rfl, h0, by omega⟩)
  · rw [e] at hi ⊢
    by_cases hc : rint_c1 t m = true
    · rw [if_pos hc]
      have hf := rfail_at (t := ⟨t.s, t.a, t.f⟩) (e := 2) h0 (by decide)
      simp only at hf ⊢
      rw [hf]
      exact .inr (.inl ⟨2, rfl, h0, by decide⟩)
    · rw [if_neg hc, if_pos h0]
      have hn := mt hi.2 hc
      simp only at hn ⊢
      have hw : IntKind.i64.wrap v = v := by rw [IntKind.wrap_i64]; omega
      rw [hw]
      exact .inr (.inr ⟨v, k, rfl, h0, h1, h2, h3, by omega⟩)
theorem rint_rok {t : RdM} {m : Int} (h : Rok t) (hm : m < 9223372036854775808 := by first | decide | omega) : Rok (rint_m t m).2 := by
  have hb := h.b
  rcases rint_cases h hm with ⟨e, h0⟩ | ⟨k, e, h0, hk⟩ | ⟨v, k, e, h0, h1, h2, _⟩
  · rw [e]; exact h
  · rw [e]; exact ⟨h.1, h.2.1, h.2.2.1, fun hk0 => absurd hk0 hk, h.1, by simp only; omega⟩
  · rw [e]; exact ⟨by simp only; omega, by simp only; omega, h.2.2.1, h.2.2.2⟩
theorem rint_s {t : RdM} {m : Int} (h : Rok t) (hm : m < 9223372036854775808) : (rint_m t m).2.s = t.s := by
  rcases rint_cases h hm with ⟨e, h0⟩ | ⟨k, e, h0, hk⟩ | ⟨v, k, e, h0, h1, h2, _⟩ <;> rw [e]
theorem rint_back {t : RdM} {m : Int} (h : Rok t) (hm : m < 9223372036854775808) : Rok (⟨((rint_m t m).2).s, t.a, ((rint_m t m).2).f⟩ : RdM) := by
  have h1 := rint_rok h hm
  have e := rint_s h hm
  exact ⟨h.1, by simp only [e]; exact h.2.1, by simp only [e]; exact h.2.2.1, h1.2.2.2⟩
theorem rint_v {t : RdM} {m : Int} (h : Rok t) (hm : m < 9223372036854775808) : 0 ≤ (rint_m t m).1 ∧ ((rint_m t m).1 = 0 ∨ (rint_m t m).1 ≤ m) := by
  rcases rint_cases h hm with ⟨e, h0⟩ | ⟨k, e, h0, hk⟩ | ⟨v, k, e, h0, h1, h2, h3⟩ <;> rw [e]
  · exact ⟨Int.le_refl _, .inl rfl⟩
  · exact ⟨Int.le_refl _, .inl rfl⟩
  · exact ⟨h3.1, .inr h3.2⟩

theorem rint_le {t : RdM} {m : Int} (h : Rok t) (hm : 0 ≤ m ∧ m ≤ 1048576) : 0 ≤ (rint_m t m).1 ∧ (rint_m t m).1 ≤ 1048576 := by have := rint_v (m := m) h (by omega); omega

def rsigned_m (t : RdM) : Int × RdM :=
  if (((rnum_m t).1) % 2) = 1 then
    ((0 - (IntKind.i64.wrap (((rnum_m t).1) / 2))) - 1, ((rnum_m t).2))
  else
    (IntKind.i64.wrap (((rnum_m t).1) / 2), ((rnum_m t).2))


set_option maxRecDepth 20000 in
theorem rsigned_ok (X : List Nat) (w : World) (g_t : Nat) (t : RdM) (hs : St X w [(some g_t, Cl [sv t.s, .int .i64 t.a, .int .i64 t.f.atF, .int .i64 t.f.e] 57)] []) (ht : Rok t) :
    Fn Tryz.prog 42 [.pointer (some ⟨g_t, 0, none⟩)] w fun v w' => v = .int .i64 ((rsigned_m t).1) ∧ St X w' [(some g_t, Cl [sv (((rsigned_m t).2).s), .int .i64 (((rsigned_m t).2).a), .int .i64 (((rsigned_m t).2).f.atF), .int .i64 (((rsigned_m t).2).f.e)] 57)] [] ∧ Fr (keys [(some g_t, Cl [sv t.s, .int .i64 t.a, .int .i64 t.f.atF, .int .i64 t.f.e] 57)]) w w' ∧ (∀ k ∈ keys [(some g_t, Cl [sv (((rsigned_m t).2).s), .int .i64 (((rsigned_m t).2).a), .int .i64 (((rsigned_m t).2).f.atF), .int .i64 (((rsigned_m t).2).f.e)] 57)], k ∈ (keys [(some g_t, Cl [sv t.s, .int .i64 t.a, .int .i64 t.f.atF, .int .i64 t.f.e] 57)]) ∨ w.heap.size ≤ k) := by
  refine Fn_of 17 Ty.en_42 Tryz.func42 rfl rfl rfl ?_
  dsimp only [argEnv]
  have hs0 := hs
  have st : St X w [(some g_t, Cl [sv t.s, .int .i64 t.a, .int .i64 t.f.atF, .int .i64 t.f.e] 57)] [] := hs
  have hF := Fr.refl (keys [(some g_t, Cl [sv t.s, .int .i64 t.a, .int .i64 t.f.atF, .int .i64 t.f.e] 57)]) w
  have htb := ht.b
  have hv := rnum_v ht
  have hw : IntKind.i64.wrap ((rnum_m t).1 / 2) = (rnum_m t).1 / 2 := by rw [IntKind.wrap_i64]; omega
  refine sq fun _ k1 => rg (Ls' rfl (Ln k1 (sq fun _ k2 => rg (Lm rfl (La rfl (a_call rfl rfl rfl rfl (rnum_ok (keys (pickL (hOf st) []) ++ X) _ g_t t (st.sub [] [0] [] (by decide)) (by assumption)) (fun v w1 ⟨hv, hN1, hfO1, hkc1⟩ => ?_)))))))
  subst hv
  have st := st.callS [] [0] (by decide) rfl hN1 hfO1 hkc1
  have hF := hF.step hfO1 (kc_s (.inl (by simp [keys])) (kc_n))
  have st : St X w1 [_] [] := st
  have hrk1 : Rok ((rnum_m t).2) := rnum_rok (by assumption)
  have hrk1b := hrk1.b
  refine Ls' rfl (Ln k2 (sq fun _ k3 => sq fun _ k4 => rg (Lm rfl (Ly rfl (y_remP rfl rfl rfl (by first | omega | (simp; done) | (simp; omega)) (by first | omega | (simp; done) | (simp; omega))) ?_))))
  refine Ly rfl (yeq rfl) (Ln k4 (cE rfl (fun hc1 => ?_) (fun hc1 => ?_)))
  · refine sq fun _ k5 => rg (Lm rfl (Ly rfl (y_quoN rfl rfl rfl (by first | omega | (simp; done) | (simp; omega)) (by first | omega | (simp; done) | (simp; omega)) (fun r h1 h2 => wf_u64 (by omega))) ?_))
    refine Ly rfl (y_cvi (c := IntKind.i64.wrap (((rnum_m t).1) / 2)) rfl rfl Tryz.underlying72 Tryz.underlying2 rfl) (Ly rfl (y_neg (c := 0 - (IntKind.i64.wrap (((rnum_m t).1) / 2))) rfl rfl (wf_i64 (by first | omega | (simp; done) | (simp; omega)))) ?_)
    refine Ly rfl (y_sub (c := (0 - (IntKind.i64.wrap (((rnum_m t).1) / 2))) - 1) rfl rfl rfl (wf_i64 (by first | omega | (simp; done) | (simp; omega)))) ?_
    refine Ls' rfl (Ln k5 (Wp_ret (Th_r (Fq_ret (Res1 rfl rfl) ?_))))
    unfold rsigned_m; rewrite [if_pos hc1]
    exact ⟨rfl, (st.picks [0] (by decide)).pickK [], hF, kc_s (.inl (by simp [keys])) (kc_n)⟩
  refine sk k3 (sq fun _ k6 => rg (Lm rfl (Ly rfl (y_quoN rfl rfl rfl (by first | omega | (simp; done) | (simp; omega)) (by first | omega | (simp; done) | (simp; omega)) (fun r h1 h2 => wf_u64 (by omega))) ?_)))
  refine Ly rfl (y_cvi (c := IntKind.i64.wrap (((rnum_m t).1) / 2)) rfl rfl Tryz.underlying72 Tryz.underlying2 rfl) (Ls' rfl (Ln k6 (Wp_ret (Fq_ret (Res1 rfl rfl) ?_))))
  unfold rsigned_m; rewrite [if_neg hc1]
  exact ⟨rfl, (st.picks [0] (by decide)).pickK [], hF, kc_s (.inl (by simp [keys])) (kc_n)⟩

theorem rsigned_rok {t : RdM} (h : Rok t) : Rok (rsigned_m t).2 := by unfold rsigned_m; split <;> exact rnum_rok h

def rtext_c1 (t : RdM) (most : Int) : Bool :=
  (if (((rint_m t most).2).f.e) = 0 then decide ((((((rint_m t most).2).s).length : Int) - (((rint_m t most).2).a)) < ((rint_m t most).1)) else false)
def rtext_m (t : RdM) (most : Int) : (List UInt8) × RdM :=
  if (rtext_c1 t most) = true then
    ([], (rfail_m (⟨((rint_m t most).2).s, t.a, ((rint_m t most).2).f⟩ : RdM) 1))
  else
    if (((rint_m t most).2).f.e) = 0 then
      (((((rint_m t most).2).s).take ((((rint_m t most).2).a) + ((rint_m t most).1)).toNat).drop (((rint_m t most).2).a).toNat, (⟨((rint_m t most).2).s, (((rint_m t most).2).a) + ((rint_m t most).1), ((rint_m t most).2).f⟩ : RdM))
    else
      ([], ((rint_m t most).2))

theorem rtext_c1_iff (t : RdM) (most : Int) : (rtext_c1 t most = true) ↔ (((((rint_m t most).2).f.e) = 0) ∧ ((((((rint_m t most).2).s).length : Int) - (((rint_m t most).2).a)) < ((rint_m t most).1))) := by
  unfold rtext_c1; exact (ci2 decide_eq_true_iff)

set_option maxRecDepth 20000 in
theorem rtext_ok (X : List Nat) (w : World) (g_t : Nat) (t : RdM) (most : Int) (hs : St X w [(some g_t, Cl [sv t.s, .int .i64 t.a, .int .i64 t.f.atF, .int .i64 t.f.e] 57)] []) (ht : Rok t) (hm : most < 9223372036854775808) :
    Fn Tryz.prog 41 [.pointer (some ⟨g_t, 0, none⟩), .int .i64 most] w fun v w' => v = sv ((rtext_m t most).1) ∧ St X w' [(some g_t, Cl [sv (((rtext_m t most).2).s), .int .i64 (((rtext_m t most).2).a), .int .i64 (((rtext_m t most).2).f.atF), .int .i64 (((rtext_m t most).2).f.e)] 57)] [] ∧ Fr (keys [(some g_t, Cl [sv t.s, .int .i64 t.a, .int .i64 t.f.atF, .int .i64 t.f.e] 57)]) w w' ∧ (∀ k ∈ keys [(some g_t, Cl [sv (((rtext_m t most).2).s), .int .i64 (((rtext_m t most).2).a), .int .i64 (((rtext_m t most).2).f.atF), .int .i64 (((rtext_m t most).2).f.e)] 57)], k ∈ (keys [(some g_t, Cl [sv t.s, .int .i64 t.a, .int .i64 t.f.atF, .int .i64 t.f.e] 57)]) ∨ w.heap.size ≤ k) := by
  refine Fn_of 72 Ty.en_41 Tryz.func41 rfl rfl rfl ?_
  dsimp only [argEnv]
  have hs0 := hs
  have st : St X w [(some g_t, Cl [sv t.s, .int .i64 t.a, .int .i64 t.f.atF, .int .i64 t.f.e] 57)] [] := hs
  have hF := Fr.refl (keys [(some g_t, Cl [sv t.s, .int .i64 t.a, .int .i64 t.f.atF, .int .i64 t.f.e] 57)]) w
  have htb := ht.b
  have hq := rint_back ht hm
  have hv := rint_v ht hm
  refine sq fun _ k1 => rg (Ls' rfl (Ln k1 (sq fun _ k2 => rg (Lm rfl (Ly rfl (y_nil rfl rfl) (Ly rfl (yf rfl Ty.fo_57_1) (Ly rfl (yl 0 Ty.pl_3 st rfl) (Ls' rfl (Ln k2 (sq fun _ k3 => rg (Lm rfl (Lm rfl (La rfl (a_call rfl rfl rfl rfl (rint_ok (keys (pickL (hOf st) []) ++ X) _ g_t t most (st.sub [] [0] [] (by decide)) (by assumption) (by first | decide | omega)) (fun v w1 ⟨hv, hN1, hfO1, hkc1⟩ => ?_)))))))))))))))
  subst hv
  have st := st.callS [] [0] (by decide) rfl hN1 hfO1 hkc1
  have hF := hF.step hfO1 (kc_s (.inl (by simp [keys])) (kc_n))
  have st : St X w1 [_] [] := st
  have hrk1 : Rok ((rint_m t most).2) := rint_rok (by assumption)
  have hrk1b := hrk1.b
  refine Ls' rfl (Ln k3 (sq fun _ k4 => sq fun _ k5 => ?_))
  refine use_out k5 (fun E W => E = [(0, .pointer (some ⟨g_t, 0, none⟩)), (5, .int .i64 t.a), (6, .int .i64 ((rint_m t most).1)), (34, .bool (rtext_c1 t most))] ∧ St X W (hOf st) (kOf st) ∧ Fr (keys [(some g_t, Cl [sv t.s, .int .i64 t.a, .int .i64 t.f.atF, .int .i64 t.f.e] 57)]) w W) ?_ fun hout1 => ?_
  · rintro E w2 ⟨rfl, st, hF⟩
    have st : St X w2 [_] [] := st
    refine cB rfl (fun hc1 => ?_) (fun hc1 => ?_)
    · have jhc1 := (rtext_c1_iff t most).1 hc1
      refine sq fun _ k6 => rg (Lm rfl (Lm rfl (Ly rfl (y_nil rfl rfl) (Ly rfl (yf rfl Ty.fo_57_1) (La rfl (Ss1 0 Ty.sz_3 st hF (by first | exact Or.inr (by omega) | exact Or.inl (kin0 _ _) | exact Or.inl (by simp)) rfl fun w3 (st : St _ _ [(_, Cl [_, _, _, _] _)] _) hF => ?_))))))
      refine Ln k6 (rg (Lm rfl (La rfl (a_call rfl rfl rfl rfl (rfail_ok (keys (pickL (hOf st) []) ++ X) _ g_t (⟨((rint_m t most).2).s, t.a, ((rint_m t most).2).f⟩ : RdM) 1 (st.sub [] [0] [] (by decide))) (fun v w4 ⟨hv, hN2, hfO2, hkc2⟩ => ?_)))))
      subst hv
      have st := st.callS [] [0] (by decide) rfl hN2 hfO2 hkc2
      have hF := hF.step hfO2 (kc_s (.inl (by simp [keys])) (kc_n))
      have st : St X w4 [_] [] := st
      have hrk2 : Rok (rfail_m (⟨((rint_m t most).2).s, t.a, ((rint_m t most).2).f⟩ : RdM) 1) := rfail_rok (by assumption)
      have hrk2b := hrk2.b
      refine Ln k4 (sq fun _ k7 => sq fun _ k8 => rg (Lm rfl (Ly rfl (y_nil rfl rfl) (Ly rfl (yf rfl Ty.fo_57_2) (Ly rfl (yf rfl Ty.fo_55_1) (Ly rfl (yl 0 Ty.pl_45 st rfl) (Ly rfl (yne rfl) (Ln k8 ?_))))))))
      have hd1 : ¬ (((rfail_m (⟨((rint_m t most).2).s, t.a, ((rint_m t most).2).f⟩ : RdM) 1).f.e) = 0) := by
        exact rfail_ne (by decide)
      refine Wp_cond rfl (fun _ => ?_) (fun hc2 => absurd hc2 (by first | (simp [hd1]; done) | (rw [hd1]; simp; done) | simpa using hd1))
      refine sq fun _ k9 => rg (Ls' rfl (Ln k9 (Wp_ret (Th_r (Fq_ret (Res1 rfl rfl) ?_)))))
      unfold rtext_m; rewrite [if_pos hc1]
      exact ⟨rfl, (st.picks [0] (by decide)).pickK [], hF, kc_s (.inl (by simp [keys])) (kc_n)⟩
    have jhc1 := mt (rtext_c1_iff t most).2 hc1
    refine sk k4 (sq fun _ k10 => sq fun _ k11 => rg (Lm rfl (Ly rfl (y_nil rfl rfl) (Ly rfl (yf rfl Ty.fo_57_2) (Ly rfl (yf rfl Ty.fo_55_1) (Ly rfl (yl 0 Ty.pl_45 st rfl) (Ly rfl (yne rfl) (Ln k11 (cN rfl (fun hc3 => ?_) (fun hc3 => ?_))))))))))
    · refine sq fun _ k12 => rg (Ls' rfl (Ln k12 (Wp_ret (Th_r (Fq_ret (Res1 rfl rfl) ?_)))))
      unfold rtext_m; rewrite [if_neg hc1, if_neg hc3]
      exact ⟨rfl, (st.picks [0] (by decide)).pickK [], hF, kc_s (.inl (by simp [keys])) (kc_n)⟩
    refine sk k10 (sq fun _ k13 => ?_)
    refine Wp_plan (fun W => St X W (pickL (hOf st) [0]) (kOf st)) [(true, 0), (true, 1), (true, 2), (true, 3), (true, 4), (true, 5), (true, 6), (true, 7), (true, 8), (true, 9), (true, 10), (true, 11), (true, 12), (true, 13), (true, 14), (true, 15)] Ty.mx_0 (by kernel_rfl) (by kernel_rfl) rfl ((st.picks [0] (by decide)).drew) ?_
    have st := st.drew
    have hF := hF.step0 (Fr.drew _)
    refine Pm rfl (Py rfl (y_nil rfl rfl) (Py rfl (yf rfl Ty.fo_57_0) (Py rfl (y_load (i := 0) rfl rfl Ty.pl_9 (fun _ h => h.hp) rfl rfl) (Pm rfl (Py rfl (y_nil rfl rfl) (Py rfl (yf rfl Ty.fo_57_1) (Py rfl (y_load (i := 0) rfl rfl Ty.pl_3 (fun _ h => h.hp) rfl rfl) (Pm rfl (Py rfl (y_nil rfl rfl) (Py rfl (yf rfl Ty.fo_57_1) (Py rfl (y_load (i := 0) rfl rfl Ty.pl_3 (fun _ h => h.hp) rfl rfl) (Pm rfl (Py rfl (y_add (c := (((rint_m t most).2).a) + ((rint_m t most).1)) rfl rfl rfl (wf_i64 (by first | omega | (simp; done) | (simp; omega)))) ?_)))))))))))))
    refine Py rfl (y_cuts (p := ((rint_m t most).2).a) (q := (((rint_m t most).2).a) + ((rint_m t most).1)) rfl rfl Tryz.underlying9 rfl rfl (by first | omega | (simp; done) | (simp; omega)) (by first | omega | (simp; done) | (simp; omega)) (by first | omega | (simp; done) | (simp; omega))) ?_
    refine Py rfl (y_assign rfl rfl) (Pl_nil (Th_n (k13 _ _ (sq fun _ k14 => rg (Lm rfl (Lm rfl (Ly rfl (y_nil rfl rfl) (Ly rfl (yf rfl Ty.fo_57_1) (Ly rfl (yl 0 Ty.pl_3 st rfl) (Lm rfl (Ly rfl (y_add (c := (((rint_m t most).2).a) + ((rint_m t most).1)) rfl rfl rfl (wf_i64 (by first | omega | (simp; done) | (simp; omega)))) ?_)))))))))))
    refine Ly rfl (y_nil rfl rfl) (Ly rfl (yf rfl Ty.fo_57_1) (La rfl (Ss1 0 Ty.sz_3 st hF (by first | exact Or.inr (by omega) | exact Or.inl (kin0 _ _) | exact Or.inl (by simp)) rfl fun w5 (st : St _ _ [(_, Cl [_, _, _, _] _)] _) hF => ?_)))
    refine Ln k14 (sq fun _ k15 => rg (Lm rfl (Ls' rfl (Ln k15 (Wp_ret (Fq_ret (Res1 rfl rfl) ?_))))))
    unfold rtext_m; rewrite [if_neg hc1, if_pos hc3]
    exact ⟨rfl, (st.picks [0] (by decide)).pickK [], hF, kc_s (.inl (by simp [keys])) (kc_n)⟩
  refine Wp_plan (fun W => St X W (pickL (hOf st) [0]) (kOf st)) [(true, 0), (true, 1), (true, 2), (true, 3), (true, 4), (true, 5), (true, 6), (true, 7), (true, 8), (true, 9), (true, 10), (true, 11), (true, 12), (true, 13), (true, 14), (true, 15), (true, 16), (true, 17), (true, 18), (true, 19)] Ty.mx_0 (by kernel_rfl) (by kernel_rfl) rfl ((st.picks [0] (by decide)).drew) ?_
  have st := st.drew
  have hF := hF.step0 (Fr.drew _)
  refine Pm rfl (Py rfl (y_nil rfl rfl) (Py rfl (yf rfl Ty.fo_57_2) (Py rfl (yf rfl Ty.fo_55_1) (Py rfl (y_load (i := 0) rfl rfl Ty.pl_45 (fun _ h => h.hp) rfl rfl) (Py rfl (yeq rfl) (Pm rfl (Pl_bool 21 rfl (fun hc4 => ?_) (fun hc4 => ?_))))))))
  · have hc4 := eT hc4
    refine Pl_y rfl (wtdT rfl rfl rfl) rfl rfl (y_move rfl rfl) (Pl_y rfl (wtdT rfl rfl rfl) rfl rfl (y_move rfl rfl) (Pl_y rfl (wtdT rfl rfl rfl) rfl rfl (y_nil rfl rfl) (Pl_y rfl (wtdT rfl rfl rfl) rfl rfl (yf rfl Ty.fo_57_0) (Pl_y rfl (wtdT rfl rfl rfl) rfl rfl (y_load (i := 0) rfl rfl Ty.pl_9 (fun _ h => h.hp) rfl rfl) (Pl_y rfl (wtdT rfl rfl rfl) rfl rfl (y_lens rfl rfl Tryz.underlying9) (Pl_y rfl (wtdT rfl rfl rfl) rfl rfl (y_move rfl rfl) (Pl_y rfl (wtdT rfl rfl rfl) rfl rfl (y_nil rfl rfl) (Pl_y rfl (wtdT rfl rfl rfl) rfl rfl (yf rfl Ty.fo_57_1) (Pl_y rfl (wtdT rfl rfl rfl) rfl rfl (y_load (i := 0) rfl rfl Ty.pl_3 (fun _ h => h.hp) rfl rfl) (Pl_y rfl (wtdT rfl rfl rfl) rfl rfl (y_sub (c := ((((rint_m t most).2).s).length : Int) - (((rint_m t most).2).a)) rfl rfl rfl (wf_i64 (by first | omega | (simp; done) | (simp; omega)))) ?_))))))))))
    refine Pl_y rfl (wtdT rfl rfl rfl) rfl rfl (ygt rfl) (Py rfl (yT rfl) (Pl_nil (Th_n (?_))))
    exact hout1 _ [(0, _), (5, _), (6, _), (34, _)] _ ⟨rfl, rfl, rfl, rfl, trivial⟩ ⟨by unfold rtext_c1; rewrite [if_pos hc4]; rfl, (st.picks [0] (by decide)).pickK [], hF⟩
  have hc4 := eF hc4
  refine Pl_s rfl (wtdF rfl rfl rfl) rfl rfl (Pl_s rfl (wtdF rfl rfl rfl) rfl rfl (Pl_s rfl (wtdF rfl rfl rfl) rfl rfl (Pl_s rfl (wtdF rfl rfl rfl) rfl rfl (Pl_s rfl (wtdF rfl rfl rfl) rfl rfl (Pl_s rfl (wtdF rfl rfl rfl) rfl rfl (Pl_s rfl (wtdF rfl rfl rfl) rfl rfl (Pl_s rfl (wtdF rfl rfl rfl) rfl rfl (Pl_s rfl (wtdF rfl rfl rfl) rfl rfl (Pl_s rfl (wtdF rfl rfl rfl) rfl rfl (Pl_s rfl (wtdF rfl rfl rfl) rfl rfl (Pl_s rfl (wtdF rfl rfl rfl) rfl rfl (Py rfl (yF rfl) (Pl_nil (Th_n (?_)))))))))))))))
  exact hout1 _ [(0, _), (5, _), (6, _), (34, _)] _ ⟨rfl, rfl, rfl, rfl, trivial⟩ ⟨by unfold rtext_c1; rewrite [if_neg hc4]; rfl, (st.picks [0] (by decide)).pickK [], hF⟩

theorem rtext_rok {t : RdM} {m : Int} (h : Rok t) (hm : m < 9223372036854775808 := by first | decide | omega) : Rok (rtext_m t m).2 := by
  have h1 := rint_rok h hm
  have h1b := h1.b
  have h2 := rint_v h hm
  unfold rtext_m
  split
  · rename_i hc
    exact rfail_rok (rint_back h hm)
  · rename_i hc
    have h3 := mt (rtext_c1_iff t m).2 hc
    split
    · exact ⟨by simp only; omega, by simp only; omega, h1.2.2.1, h1.2.2.2⟩
    · exact h1

def r5read_m (t : RdM) : IdM × RdM :=
  if (((rint_m ((rint_m t 7).2) 1048576).1) % 4294967296) = 0 then
    if ((rfail_m ((rint_m ((rint_m t 7).2) 1048576).2) 2).f.e) = 0 then
      ((⟨(rint_m t 7).1, ((rint_m ((rint_m t 7).2) 1048576).1) % 4294967296⟩ : IdM), (rfail_m ((rint_m ((rint_m t 7).2) 1048576).2) 2))
    else
      ((⟨0, 0⟩ : IdM), (rfail_m ((rint_m ((rint_m t 7).2) 1048576).2) 2))
  else
    if (((rint_m ((rint_m t 7).2) 1048576).2).f.e) = 0 then
      ((⟨(rint_m t 7).1, ((rint_m ((rint_m t 7).2) 1048576).1) % 4294967296⟩ : IdM), ((rint_m ((rint_m t 7).2) 1048576).2))
    else
      ((⟨0, 0⟩ : IdM), ((rint_m ((rint_m t 7).2) 1048576).2))


set_option maxRecDepth 20000 in
theorem r5read_ok (X : List Nat) (w : World) (g_t : Nat) (t : RdM) (hs : St X w [(some g_t, Cl [sv t.s, .int .i64 t.a, .int .i64 t.f.atF, .int .i64 t.f.e] 57)] []) (ht : Rok t) :
    Fn Tryz.prog 66 [.pointer (some ⟨g_t, 0, none⟩)] w fun v w' => v = .agg (idMC ((r5read_m t).1)).toArray ∧ St X w' [(some g_t, Cl [sv (((r5read_m t).2).s), .int .i64 (((r5read_m t).2).a), .int .i64 (((r5read_m t).2).f.atF), .int .i64 (((r5read_m t).2).f.e)] 57)] [] ∧ Fr (keys [(some g_t, Cl [sv t.s, .int .i64 t.a, .int .i64 t.f.atF, .int .i64 t.f.e] 57)]) w w' ∧ (∀ k ∈ keys [(some g_t, Cl [sv (((r5read_m t).2).s), .int .i64 (((r5read_m t).2).a), .int .i64 (((r5read_m t).2).f.atF), .int .i64 (((r5read_m t).2).f.e)] 57)], k ∈ (keys [(some g_t, Cl [sv t.s, .int .i64 t.a, .int .i64 t.f.atF, .int .i64 t.f.e] 57)]) ∨ w.heap.size ≤ k) := by
  refine Fn_of 24 Ty.en_66 Tryz.func66 rfl rfl rfl ?_
  dsimp only [argEnv]
  have hs0 := hs
  have st : St X w [(some g_t, Cl [sv t.s, .int .i64 t.a, .int .i64 t.f.atF, .int .i64 t.f.e] 57)] [] := hs
  have hF := Fr.refl (keys [(some g_t, Cl [sv t.s, .int .i64 t.a, .int .i64 t.f.atF, .int .i64 t.f.e] 57)]) w
  have htb := ht.b
  refine sq fun _ k1 => rg (La rfl (Sal Ty.zc_24 st hF rfl fun g1 w1 (st : St _ _ [_, _] _) hF hg1 => Ln k1 (sq fun _ k2 => rg (Lm rfl (La rfl (a_call rfl rfl rfl rfl (rint_ok (keys (pickL (hOf st) [1]) ++ X) _ g_t t 7 (st.sub [1] [0] [] (by decide)) (by assumption) (by first | decide | omega)) (fun v w2 ⟨hv, hN1, hfO1, hkc1⟩ => ?_)))))))
  subst hv
  have st := st.callS [1] [0] (by decide) rfl hN1 hfO1 hkc1
  have hF := hF.step hfO1 (kc_s (.inl (by simp [keys])) (kc_n))
  have st : St X w2 [_, _] [] := st
  have hrk1 : Rok ((rint_m t 7).2) := rint_rok (by assumption)
  have hrk1b := hrk1.b
  refine Ly rfl (y_build (cells := [_, _]) rfl rfl Ty.zc_24 Ty.ps_24 rfl) (La rfl (Sal Ty.zc_24 st hF rfl fun g2 w3 (st : St _ _ [_, _, _] _) hF hg2 => La rfl (Ssw 2 Ty.sz_24 st hF (.inr hg2) rfl fun w4 (st : St _ _ [_, _, _] _) hF => Ln k2 (sq fun _ k3 => rg (Lm rfl (La rfl (a_call rfl rfl rfl rfl (rint_ok (keys (pickL (hOf st) [0, 2]) ++ X) _ g_t ((rint_m t 7).2) 1048576 (st.sub [0, 2] [1] [] (by decide)) (by assumption) (by first | decide | omega)) (fun v w5 ⟨hv, hN2, hfO2, hkc2⟩ => ?_))))))))
  subst hv
  have st := st.callS [0, 2] [1] (by decide) rfl hN2 hfO2 hkc2
  have hF := hF.step hfO2 (kc_s (.inl (by simp [keys])) (kc_n))
  have st : St X w5 [_, _, _] [] := st
  have hrk2 : Rok ((rint_m ((rint_m t 7).2) 1048576).2) := rint_rok (by assumption)
  have hrk2b := hrk2.b
  refine Ly rfl (y_cvi (c := ((rint_m ((rint_m t 7).2) 1048576).1) % 4294967296) rfl rfl Tryz.underlying3 Tryz.underlying22 wm_u32) (Ly rfl (yf rfl Ty.fo_24_1) (La rfl (Ss1 1 Ty.sz_22 st hF (.inr hg2) rfl fun w6 (st : St _ _ [_, (_, Cl [_, _] _), _] _) hF => Ln k3 (sq fun _ k4 => sq fun _ k5 => rg (Ly rfl (yf rfl Ty.fo_24_1) (Ly rfl (yl 1 Ty.pl_22 st rfl) (Ly rfl (yeq rfl) (Ln k5 (cE rfl (fun hc1 => ?_) (fun hc1 => ?_))))))))))
  · refine rg (Lm rfl (La rfl (a_call rfl rfl rfl rfl (rfail_ok (keys (pickL (hOf st) [0, 1]) ++ X) _ g_t ((rint_m ((rint_m t 7).2) 1048576).2) 2 (st.sub [0, 1] [2] [] (by decide))) (fun v w7 ⟨hv, hN3, hfO3, hkc3⟩ => ?_))))
    subst hv
    have st := st.callS [0, 1] [2] (by decide) rfl hN3 hfO3 hkc3
    have hF := hF.step hfO3 (kc_s (.inl (by simp [keys])) (kc_n))
    have st : St X w7 [_, _, _] [] := st
    have hrk3 : Rok (rfail_m ((rint_m ((rint_m t 7).2) 1048576).2) 2) := rfail_rok (by assumption)
    have hrk3b := hrk3.b
    refine Ln k4 (sq fun _ k6 => sq fun _ k7 => rg (Lm rfl (Ly rfl (y_nil rfl rfl) (Ly rfl (yf rfl Ty.fo_57_2) (Ly rfl (yf rfl Ty.fo_55_1) (Ly rfl (yl 2 Ty.pl_45 st rfl) (Ly rfl (yne rfl) (Ln k7 (cN rfl (fun hc2 => ?_) (fun hc2 => ?_))))))))))
    · refine sq fun _ k8 => rg (Ly rfl (y_build (cells := [_, _]) rfl rfl Ty.zc_24 Ty.ps_24 rfl) (La rfl (Ssw 0 Ty.sz_24 st hF (.inr hg1) rfl fun w8 (st : St _ _ [_, _, _] _) hF => Ln k8 (Wp_ret (Th_r (Fq_ret (ResN1 rfl (rvc (i := 0) rfl Ty.ag_24 st.hp rfl rfl)) ?_))))))
      unfold r5read_m; rewrite [if_pos hc1, if_neg hc2]
      exact ⟨rfl, (st.picks [2] (by decide)).pickK [], hF, kc_s (.inl (by simp [keys])) (kc_n)⟩
    refine sk k6 (sq fun _ k9 => rg (Ly rfl (yw 1 Ty.ag_24 st rfl) (La rfl (Ssw 0 Ty.sz_24 st hF (.inr hg1) rfl fun w9 (st : St _ _ [_, _, _] _) hF => Ln k9 (Wp_ret (Fq_ret (ResN1 rfl (rvc (i := 0) rfl Ty.ag_24 st.hp rfl rfl)) ?_))))))
    unfold r5read_m; rewrite [if_pos hc1, if_pos hc2]
    exact ⟨rfl, (st.picks [2] (by decide)).pickK [], hF, kc_s (.inl (by simp [keys])) (kc_n)⟩
  refine sk k4 (sq fun _ k10 => sq fun _ k11 => rg (Lm rfl (Ly rfl (y_nil rfl rfl) (Ly rfl (yf rfl Ty.fo_57_2) (Ly rfl (yf rfl Ty.fo_55_1) (Ly rfl (yl 2 Ty.pl_45 st rfl) (Ly rfl (yne rfl) (Ln k11 (cN rfl (fun hc3 => ?_) (fun hc3 => ?_))))))))))
  · refine sq fun _ k12 => rg (Ly rfl (y_build (cells := [_, _]) rfl rfl Ty.zc_24 Ty.ps_24 rfl) (La rfl (Ssw 0 Ty.sz_24 st hF (.inr hg1) rfl fun w10 (st : St _ _ [_, _, _] _) hF => Ln k12 (Wp_ret (Th_r (Fq_ret (ResN1 rfl (rvc (i := 0) rfl Ty.ag_24 st.hp rfl rfl)) ?_))))))
    unfold r5read_m; rewrite [if_neg hc1, if_neg hc3]
    exact ⟨rfl, (st.picks [2] (by decide)).pickK [], hF, kc_s (.inl (by simp [keys])) (kc_n)⟩
  refine sk k10 (sq fun _ k13 => rg (Ly rfl (yw 1 Ty.ag_24 st rfl) (La rfl (Ssw 0 Ty.sz_24 st hF (.inr hg1) rfl fun w11 (st : St _ _ [_, _, _] _) hF => Ln k13 (Wp_ret (Fq_ret (ResN1 rfl (rvc (i := 0) rfl Ty.ag_24 st.hp rfl rfl)) ?_))))))
  unfold r5read_m; rewrite [if_neg hc1, if_pos hc3]
  exact ⟨rfl, (st.picks [2] (by decide)).pickK [], hF, kc_s (.inl (by simp [keys])) (kc_n)⟩

theorem r5read_rok {t : RdM} (h : Rok t) : Rok (r5read_m t).2 := by
  have h1 := rint_rok (m := 1048576) (rint_rok (m := 7) h)
  have h2 := rfail_rok (e := 2) h1
  unfold r5read_m
  repeat' split
  all_goals first | exact h1 | exact h2

def r5readTag_m (t : RdM) : TagM × RdM :=
  if (((rint_m ((r5read_m t).2) 15).2).f.e) = 0 then
    ((⟨(⟨((r5read_m t).1).origin, ((r5read_m t).1).seq⟩ : IdM), (rint_m ((r5read_m t).2) 15).1⟩ : TagM), ((rint_m ((r5read_m t).2) 15).2))
  else
    ((⟨(⟨0, 0⟩ : IdM), 0⟩ : TagM), ((rint_m ((r5read_m t).2) 15).2))


set_option maxRecDepth 20000 in
theorem r5readTag_ok (X : List Nat) (w : World) (g_t : Nat) (t : RdM) (hs : St X w [(some g_t, Cl [sv t.s, .int .i64 t.a, .int .i64 t.f.atF, .int .i64 t.f.e] 57)] []) (ht : Rok t) :
    Fn Tryz.prog 43 [.pointer (some ⟨g_t, 0, none⟩)] w fun v w' => v = .agg (tagMC ((r5readTag_m t).1)).toArray ∧ St X w' [(some g_t, Cl [sv (((r5readTag_m t).2).s), .int .i64 (((r5readTag_m t).2).a), .int .i64 (((r5readTag_m t).2).f.atF), .int .i64 (((r5readTag_m t).2).f.e)] 57)] [] ∧ Fr (keys [(some g_t, Cl [sv t.s, .int .i64 t.a, .int .i64 t.f.atF, .int .i64 t.f.e] 57)]) w w' ∧ (∀ k ∈ keys [(some g_t, Cl [sv (((r5readTag_m t).2).s), .int .i64 (((r5readTag_m t).2).a), .int .i64 (((r5readTag_m t).2).f.atF), .int .i64 (((r5readTag_m t).2).f.e)] 57)], k ∈ (keys [(some g_t, Cl [sv t.s, .int .i64 t.a, .int .i64 t.f.atF, .int .i64 t.f.e] 57)]) ∨ w.heap.size ≤ k) := by
  refine Fn_of 18 Ty.en_43 Tryz.func43 rfl rfl rfl ?_
  dsimp only [argEnv]
  have hs0 := hs
  have st : St X w [(some g_t, Cl [sv t.s, .int .i64 t.a, .int .i64 t.f.atF, .int .i64 t.f.e] 57)] [] := hs
  have hF := Fr.refl (keys [(some g_t, Cl [sv t.s, .int .i64 t.a, .int .i64 t.f.atF, .int .i64 t.f.e] 57)]) w
  have htb := ht.b
  refine sq fun _ k1 => rg (La rfl (Sal Ty.zc_26 st hF rfl fun g1 w1 (st : St _ _ [_, _] _) hF hg1 => Ln k1 (sq fun _ k2 => rg (Lm rfl (La rfl (a_call rfl rfl rfl rfl (r5read_ok (keys (pickL (hOf st) [1]) ++ X) _ g_t t (st.sub [1] [0] [] (by decide)) (by assumption)) (fun v w2 ⟨hv, hN1, hfO1, hkc1⟩ => ?_)))))))
  subst hv
  have st := st.callS [1] [0] (by decide) rfl hN1 hfO1 hkc1
  have hF := hF.step hfO1 (kc_s (.inl (by simp [keys])) (kc_n))
  have st : St X w2 [_, _] [] := st
  have hrk1 : Rok ((r5read_m t).2) := r5read_rok (by assumption)
  have hrk1b := hrk1.b
  refine Ly rfl (y_build (cells := [_, _, _]) rfl rfl Ty.zc_26 Ty.ps_26 rfl) (La rfl (Sal Ty.zc_26 st hF rfl fun g2 w3 (st : St _ _ [_, _, _] _) hF hg2 => La rfl (Ssw 2 Ty.sz_26 st hF (.inr hg2) rfl fun w4 (st : St _ _ [_, _, _] _) hF => Ln k2 (sq fun _ k3 => rg (Lm rfl (La rfl (a_call rfl rfl rfl rfl (rint_ok (keys (pickL (hOf st) [0, 2]) ++ X) _ g_t ((r5read_m t).2) 15 (st.sub [0, 2] [1] [] (by decide)) (by assumption) (by first | decide | omega)) (fun v w5 ⟨hv, hN2, hfO2, hkc2⟩ => ?_))))))))
  subst hv
  have st := st.callS [0, 2] [1] (by decide) rfl hN2 hfO2 hkc2
  have hF := hF.step hfO2 (kc_s (.inl (by simp [keys])) (kc_n))
  have st : St X w5 [_, _, _] [] := st
  have hrk2 : Rok ((rint_m ((r5read_m t).2) 15).2) := rint_rok (by assumption)
  have hrk2b := hrk2.b
  refine Ly rfl (yf rfl Ty.fo_26_1) (La rfl (Ss1 1 Ty.sz_3 st hF (.inr hg2) rfl fun w6 (st : St _ _ [_, (_, Cl [_, _, _] _), _] _) hF => Ln k3 (sq fun _ k4 => sq fun _ k5 => rg (Lm rfl (Ly rfl (y_nil rfl rfl) (Ly rfl (yf rfl Ty.fo_57_2) (Ly rfl (yf rfl Ty.fo_55_1) (Ly rfl (yl 2 Ty.pl_45 st rfl) (Ly rfl (yne rfl) (Ln k5 (cN rfl (fun hc1 => ?_) (fun hc1 => ?_))))))))))))
  · refine sq fun _ k6 => rg (Ly rfl (y_build (cells := [_, _, _]) rfl rfl Ty.zc_26 Ty.ps_26 rfl) (La rfl (Ssw 0 Ty.sz_26 st hF (.inr hg1) rfl fun w7 (st : St _ _ [_, _, _] _) hF => Ln k6 (Wp_ret (Th_r (Fq_ret (ResN1 rfl (rvc (i := 0) rfl Ty.ag_26 st.hp rfl rfl)) ?_))))))
    unfold r5readTag_m; rewrite [if_neg hc1]
    exact ⟨rfl, (st.picks [2] (by decide)).pickK [], hF, kc_s (.inl (by simp [keys])) (kc_n)⟩
  refine sk k4 (sq fun _ k7 => rg (Ly rfl (yw 1 Ty.ag_26 st rfl) (La rfl (Ssw 0 Ty.sz_26 st hF (.inr hg1) rfl fun w8 (st : St _ _ [_, _, _] _) hF => Ln k7 (Wp_ret (Fq_ret (ResN1 rfl (rvc (i := 0) rfl Ty.ag_26 st.hp rfl rfl)) ?_))))))
  unfold r5readTag_m; rewrite [if_pos hc1]
  exact ⟨rfl, (st.picks [2] (by decide)).pickK [], hF, kc_s (.inl (by simp [keys])) (kc_n)⟩

theorem r5readTag_rok {t : RdM} (h : Rok t) : Rok (r5readTag_m t).2 := by
  have h1 := rint_rok (m := 15) (r5read_rok h)
  unfold r5readTag_m
  repeat' split
  all_goals first | exact h1

def r9read_m (t : RdM) : StampM × RdM :=
  if (((rint_m ((rint_m t 1048576).2) 7).2).f.e) = 0 then
    ((⟨((rint_m t 1048576).1) % 4294967296, (rint_m ((rint_m t 1048576).2) 7).1⟩ : StampM), ((rint_m ((rint_m t 1048576).2) 7).2))
  else
    ((⟨0, 0⟩ : StampM), ((rint_m ((rint_m t 1048576).2) 7).2))


set_option maxRecDepth 20000 in
theorem r9read_ok (X : List Nat) (w : World) (g_t : Nat) (t : RdM) (hs : St X w [(some g_t, Cl [sv t.s, .int .i64 t.a, .int .i64 t.f.atF, .int .i64 t.f.e] 57)] []) (ht : Rok t) :
    Fn Tryz.prog 44 [.pointer (some ⟨g_t, 0, none⟩)] w fun v w' => v = .agg (stampMC ((r9read_m t).1)).toArray ∧ St X w' [(some g_t, Cl [sv (((r9read_m t).2).s), .int .i64 (((r9read_m t).2).a), .int .i64 (((r9read_m t).2).f.atF), .int .i64 (((r9read_m t).2).f.e)] 57)] [] ∧ Fr (keys [(some g_t, Cl [sv t.s, .int .i64 t.a, .int .i64 t.f.atF, .int .i64 t.f.e] 57)]) w w' ∧ (∀ k ∈ keys [(some g_t, Cl [sv (((r9read_m t).2).s), .int .i64 (((r9read_m t).2).a), .int .i64 (((r9read_m t).2).f.atF), .int .i64 (((r9read_m t).2).f.e)] 57)], k ∈ (keys [(some g_t, Cl [sv t.s, .int .i64 t.a, .int .i64 t.f.atF, .int .i64 t.f.e] 57)]) ∨ w.heap.size ≤ k) := by
  refine Fn_of 19 Ty.en_44 Tryz.func44 rfl rfl rfl ?_
  dsimp only [argEnv]
  have hs0 := hs
  have st : St X w [(some g_t, Cl [sv t.s, .int .i64 t.a, .int .i64 t.f.atF, .int .i64 t.f.e] 57)] [] := hs
  have hF := Fr.refl (keys [(some g_t, Cl [sv t.s, .int .i64 t.a, .int .i64 t.f.atF, .int .i64 t.f.e] 57)]) w
  have htb := ht.b
  refine sq fun _ k1 => rg (La rfl (Sal Ty.zc_28 st hF rfl fun g1 w1 (st : St _ _ [_, _] _) hF hg1 => Ln k1 (sq fun _ k2 => rg (Lm rfl (La rfl (a_call rfl rfl rfl rfl (rint_ok (keys (pickL (hOf st) [1]) ++ X) _ g_t t 1048576 (st.sub [1] [0] [] (by decide)) (by assumption) (by first | decide | omega)) (fun v w2 ⟨hv, hN1, hfO1, hkc1⟩ => ?_)))))))
  subst hv
  have st := st.callS [1] [0] (by decide) rfl hN1 hfO1 hkc1
  have hF := hF.step hfO1 (kc_s (.inl (by simp [keys])) (kc_n))
  have st : St X w2 [_, _] [] := st
  have hrk1 : Rok ((rint_m t 1048576).2) := rint_rok (by assumption)
  have hrk1b := hrk1.b
  refine Ly rfl (y_cvi (c := ((rint_m t 1048576).1) % 4294967296) rfl rfl Tryz.underlying3 Tryz.underlying22 wm_u32) (Ly rfl (y_build (cells := [_, _]) rfl rfl Ty.zc_28 Ty.ps_28 rfl) (La rfl (Sal Ty.zc_28 st hF rfl fun g2 w3 (st : St _ _ [_, _, _] _) hF hg2 => La rfl (Ssw 2 Ty.sz_28 st hF (.inr hg2) rfl fun w4 (st : St _ _ [_, _, _] _) hF => Ln k2 (sq fun _ k3 => rg (Lm rfl (La rfl (a_call rfl rfl rfl rfl (rint_ok (keys (pickL (hOf st) [0, 2]) ++ X) _ g_t ((rint_m t 1048576).2) 7 (st.sub [0, 2] [1] [] (by decide)) (by assumption) (by first | decide | omega)) (fun v w5 ⟨hv, hN2, hfO2, hkc2⟩ => ?_)))))))))
  subst hv
  have st := st.callS [0, 2] [1] (by decide) rfl hN2 hfO2 hkc2
  have hF := hF.step hfO2 (kc_s (.inl (by simp [keys])) (kc_n))
  have st : St X w5 [_, _, _] [] := st
  have hrk2 : Rok ((rint_m ((rint_m t 1048576).2) 7).2) := rint_rok (by assumption)
  have hrk2b := hrk2.b
  refine Ly rfl (yf rfl Ty.fo_28_1) (La rfl (Ss1 1 Ty.sz_3 st hF (.inr hg2) rfl fun w6 (st : St _ _ [_, (_, Cl [_, _] _), _] _) hF => Ln k3 (sq fun _ k4 => sq fun _ k5 => rg (Lm rfl (Ly rfl (y_nil rfl rfl) (Ly rfl (yf rfl Ty.fo_57_2) (Ly rfl (yf rfl Ty.fo_55_1) (Ly rfl (yl 2 Ty.pl_45 st rfl) (Ly rfl (yne rfl) (Ln k5 (cN rfl (fun hc1 => ?_) (fun hc1 => ?_))))))))))))
  · refine sq fun _ k6 => rg (Ly rfl (y_build (cells := [_, _]) rfl rfl Ty.zc_28 Ty.ps_28 rfl) (La rfl (Ssw 0 Ty.sz_28 st hF (.inr hg1) rfl fun w7 (st : St _ _ [_, _, _] _) hF => Ln k6 (Wp_ret (Th_r (Fq_ret (ResN1 rfl (rvc (i := 0) rfl Ty.ag_28 st.hp rfl rfl)) ?_))))))
    unfold r9read_m; rewrite [if_neg hc1]
    exact ⟨rfl, (st.picks [2] (by decide)).pickK [], hF, kc_s (.inl (by simp [keys])) (kc_n)⟩
  refine sk k4 (sq fun _ k7 => rg (Ly rfl (yw 1 Ty.ag_28 st rfl) (La rfl (Ssw 0 Ty.sz_28 st hF (.inr hg1) rfl fun w8 (st : St _ _ [_, _, _] _) hF => Ln k7 (Wp_ret (Fq_ret (ResN1 rfl (rvc (i := 0) rfl Ty.ag_28 st.hp rfl rfl)) ?_))))))
  unfold r9read_m; rewrite [if_pos hc1]
  exact ⟨rfl, (st.picks [2] (by decide)).pickK [], hF, kc_s (.inl (by simp [keys])) (kc_n)⟩

theorem r9read_rok {t : RdM} (h : Rok t) : Rok (r9read_m t).2 := by
  have h1 := rint_rok (m := 7) (rint_rok (m := 1048576) h)
  unfold r9read_m
  repeat' split
  all_goals first | exact h1

def r14read_c1 (t : RdM) (s5 : Int) (u1_8 : List TagM) (u2_0 : List UInt8) (u2_1 : Int) (u2_2 : Int) (u2_3 : Int) : Bool :=
  (if s5 < ((rint_m ((r9read_m ((r5readTag_m ((rsigned_m ((rtext_m ((rint_m t 6).2) 12).2)).2)).2)).2) 4096).1) then u2_3 == 0 else false)

def r14read_L1 (t : RdM) : Nat → Int → (List TagM) → (List UInt8) → Int → Int → Int → (EffectM × RdM) ⊕ (Int × (List TagM) × (List UInt8) × Int × Int × Int)
  | 0, s5, u1_8, u2_0, u2_1, u2_2, u2_3 => .inr (s5, u1_8, u2_0, u2_1, u2_2, u2_3)
  | fuel + 1, s5, u1_8, u2_0, u2_1, u2_2, u2_3 =>
    if (r14read_c1 t s5 u1_8 u2_0 u2_1 u2_2 u2_3) = true then
      r14read_L1 t fuel (s5 + 1) (u1_8 ++ [(r5readTag_m (⟨u2_0, u2_1, (⟨u2_2, u2_3⟩ : FltM)⟩ : RdM)).1]) (((r5readTag_m (⟨u2_0, u2_1, (⟨u2_2, u2_3⟩ : FltM)⟩ : RdM)).2).s) (((r5readTag_m (⟨u2_0, u2_1, (⟨u2_2, u2_3⟩ : FltM)⟩ : RdM)).2).a) (((r5readTag_m (⟨u2_0, u2_1, (⟨u2_2, u2_3⟩ : FltM)⟩ : RdM)).2).f.atF) (((r5readTag_m (⟨u2_0, u2_1, (⟨u2_2, u2_3⟩ : FltM)⟩ : RdM)).2).f.e)
    else
      .inr (s5, u1_8, u2_0, u2_1, u2_2, u2_3)

def r14read_c2 (t : RdM) (s5 : Int) (u1_8 : List TagM) (u2_0 : List UInt8) (u2_1 : Int) (u2_2 : Int) (u2_3 : Int) : Bool :=
  (if s5 < ((rint_m ((r5readTag_m ((rsigned_m ((rtext_m ((rint_m t 6).2) 12).2)).2)).2) 4096).1) then u2_3 == 0 else false)

def r14read_L2 (t : RdM) : Nat → Int → (List TagM) → (List UInt8) → Int → Int → Int → (EffectM × RdM) ⊕ (Int × (List TagM) × (List UInt8) × Int × Int × Int)
  | 0, s5, u1_8, u2_0, u2_1, u2_2, u2_3 => .inr (s5, u1_8, u2_0, u2_1, u2_2, u2_3)
  | fuel + 1, s5, u1_8, u2_0, u2_1, u2_2, u2_3 =>
    if (r14read_c2 t s5 u1_8 u2_0 u2_1 u2_2 u2_3) = true then
      r14read_L2 t fuel (s5 + 1) (u1_8 ++ [(r5readTag_m (⟨u2_0, u2_1, (⟨u2_2, u2_3⟩ : FltM)⟩ : RdM)).1]) (((r5readTag_m (⟨u2_0, u2_1, (⟨u2_2, u2_3⟩ : FltM)⟩ : RdM)).2).s) (((r5readTag_m (⟨u2_0, u2_1, (⟨u2_2, u2_3⟩ : FltM)⟩ : RdM)).2).a) (((r5readTag_m (⟨u2_0, u2_1, (⟨u2_2, u2_3⟩ : FltM)⟩ : RdM)).2).f.atF) (((r5readTag_m (⟨u2_0, u2_1, (⟨u2_2, u2_3⟩ : FltM)⟩ : RdM)).2).f.e)
    else
      .inr (s5, u1_8, u2_0, u2_1, u2_2, u2_3)
def r14read_m (t : RdM) : EffectM × RdM :=
  if (r14timed_m ((rint_m t 6).1)) = true then
    if (r14takes_m ((rint_m t 6).1)) = true then
      match r14read_L1 t (((rint_m ((r9read_m ((r5readTag_m ((rsigned_m ((rtext_m ((rint_m t 6).2) 12).2)).2)).2)).2) 4096).1 - (0 : Int)).toNat + 1) (0 : Int) ([] : List TagM) (((rint_m ((r9read_m ((r5readTag_m ((rsigned_m ((rtext_m ((rint_m t 6).2) 12).2)).2)).2)).2) 4096).2).s) (((rint_m ((r9read_m ((r5readTag_m ((rsigned_m ((rtext_m ((rint_m t 6).2) 12).2)).2)).2)).2) 4096).2).a) (((rint_m ((r9read_m ((r5readTag_m ((rsigned_m ((rtext_m ((rint_m t 6).2) 12).2)).2)).2)).2) 4096).2).f.atF) (((rint_m ((r9read_m ((r5readTag_m ((rsigned_m ((rtext_m ((rint_m t 6).2) 12).2)).2)).2)).2) 4096).2).f.e) with
      | .inl r => r
      | .inr (s5, u1_8, u2_0, u2_1, u2_2, u2_3) =>
        if u2_3 = 0 then
          if ((rfail_m (⟨u2_0, u2_1, (⟨u2_2, u2_3⟩ : FltM)⟩ : RdM) (r14checkE_m (⟨(rint_m t 6).1, (rtext_m ((rint_m t 6).2) 12).1, (rsigned_m ((rtext_m ((rint_m t 6).2) 12).2)).1, (⟨(⟨((r5readTag_m ((rsigned_m ((rtext_m ((rint_m t 6).2) 12).2)).2)).1).id.origin, ((r5readTag_m ((rsigned_m ((rtext_m ((rint_m t 6).2) 12).2)).2)).1).id.seq⟩ : IdM), ((r5readTag_m ((rsigned_m ((rtext_m ((rint_m t 6).2) 12).2)).2)).1).n⟩ : TagM), (⟨((r9read_m ((r5readTag_m ((rsigned_m ((rtext_m ((rint_m t 6).2) 12).2)).2)).2)).1).time, ((r9read_m ((r5readTag_m ((rsigned_m ((rtext_m ((rint_m t 6).2) 12).2)).2)).2)).1).origin⟩ : StampM), u1_8⟩ : EffectM))).f.e) = 0 then
            ((⟨(rint_m t 6).1, (rtext_m ((rint_m t 6).2) 12).1, (rsigned_m ((rtext_m ((rint_m t 6).2) 12).2)).1, (⟨(⟨((r5readTag_m ((rsigned_m ((rtext_m ((rint_m t 6).2) 12).2)).2)).1).id.origin, ((r5readTag_m ((rsigned_m ((rtext_m ((rint_m t 6).2) 12).2)).2)).1).id.seq⟩ : IdM), ((r5readTag_m ((rsigned_m ((rtext_m ((rint_m t 6).2) 12).2)).2)).1).n⟩ : TagM), (⟨((r9read_m ((r5readTag_m ((rsigned_m ((rtext_m ((rint_m t 6).2) 12).2)).2)).2)).1).time, ((r9read_m ((r5readTag_m ((rsigned_m ((rtext_m ((rint_m t 6).2) 12).2)).2)).2)).1).origin⟩ : StampM), u1_8⟩ : EffectM), (rfail_m (⟨u2_0, u2_1, (⟨u2_2, u2_3⟩ : FltM)⟩ : RdM) (r14checkE_m (⟨(rint_m t 6).1, (rtext_m ((rint_m t 6).2) 12).1, (rsigned_m ((rtext_m ((rint_m t 6).2) 12).2)).1, (⟨(⟨((r5readTag_m ((rsigned_m ((rtext_m ((rint_m t 6).2) 12).2)).2)).1).id.origin, ((r5readTag_m ((rsigned_m ((rtext_m ((rint_m t 6).2) 12).2)).2)).1).id.seq⟩ : IdM), ((r5readTag_m ((rsigned_m ((rtext_m ((rint_m t 6).2) 12).2)).2)).1).n⟩ : TagM), (⟨((r9read_m ((r5readTag_m ((rsigned_m ((rtext_m ((rint_m t 6).2) 12).2)).2)).2)).1).time, ((r9read_m ((r5readTag_m ((rsigned_m ((rtext_m ((rint_m t 6).2) 12).2)).2)).2)).1).origin⟩ : StampM), u1_8⟩ : EffectM))))
          else
            ((⟨0, [], 0, (⟨(⟨0, 0⟩ : IdM), 0⟩ : TagM), (⟨0, 0⟩ : StampM), ([] : List TagM)⟩ : EffectM), (rfail_m (⟨u2_0, u2_1, (⟨u2_2, u2_3⟩ : FltM)⟩ : RdM) (r14checkE_m (⟨(rint_m t 6).1, (rtext_m ((rint_m t 6).2) 12).1, (rsigned_m ((rtext_m ((rint_m t 6).2) 12).2)).1, (⟨(⟨((r5readTag_m ((rsigned_m ((rtext_m ((rint_m t 6).2) 12).2)).2)).1).id.origin, ((r5readTag_m ((rsigned_m ((rtext_m ((rint_m t 6).2) 12).2)).2)).1).id.seq⟩ : IdM), ((r5readTag_m ((rsigned_m ((rtext_m ((rint_m t 6).2) 12).2)).2)).1).n⟩ : TagM), (⟨((r9read_m ((r5readTag_m ((rsigned_m ((rtext_m ((rint_m t 6).2) 12).2)).2)).2)).1).time, ((r9read_m ((r5readTag_m ((rsigned_m ((rtext_m ((rint_m t 6).2) 12).2)).2)).2)).1).origin⟩ : StampM), u1_8⟩ : EffectM))))
        else
          ((⟨0, [], 0, (⟨(⟨0, 0⟩ : IdM), 0⟩ : TagM), (⟨0, 0⟩ : StampM), ([] : List TagM)⟩ : EffectM), (⟨u2_0, u2_1, (⟨u2_2, u2_3⟩ : FltM)⟩ : RdM))
    else
      if (((r9read_m ((r5readTag_m ((rsigned_m ((rtext_m ((rint_m t 6).2) 12).2)).2)).2)).2).f.e) = 0 then
        if ((rfail_m ((r9read_m ((r5readTag_m ((rsigned_m ((rtext_m ((rint_m t 6).2) 12).2)).2)).2)).2) (r14checkE_m (⟨(rint_m t 6).1, (rtext_m ((rint_m t 6).2) 12).1, (rsigned_m ((rtext_m ((rint_m t 6).2) 12).2)).1, (⟨(⟨((r5readTag_m ((rsigned_m ((rtext_m ((rint_m t 6).2) 12).2)).2)).1).id.origin, ((r5readTag_m ((rsigned_m ((rtext_m ((rint_m t 6).2) 12).2)).2)).1).id.seq⟩ : IdM), ((r5readTag_m ((rsigned_m ((rtext_m ((rint_m t 6).2) 12).2)).2)).1).n⟩ : TagM), (⟨((r9read_m ((r5readTag_m ((rsigned_m ((rtext_m ((rint_m t 6).2) 12).2)).2)).2)).1).time, ((r9read_m ((r5readTag_m ((rsigned_m ((rtext_m ((rint_m t 6).2) 12).2)).2)).2)).1).origin⟩ : StampM), ([] : List TagM)⟩ : EffectM))).f.e) = 0 then
          ((⟨(rint_m t 6).1, (rtext_m ((rint_m t 6).2) 12).1, (rsigned_m ((rtext_m ((rint_m t 6).2) 12).2)).1, (⟨(⟨((r5readTag_m ((rsigned_m ((rtext_m ((rint_m t 6).2) 12).2)).2)).1).id.origin, ((r5readTag_m ((rsigned_m ((rtext_m ((rint_m t 6).2) 12).2)).2)).1).id.seq⟩ : IdM), ((r5readTag_m ((rsigned_m ((rtext_m ((rint_m t 6).2) 12).2)).2)).1).n⟩ : TagM), (⟨((r9read_m ((r5readTag_m ((rsigned_m ((rtext_m ((rint_m t 6).2) 12).2)).2)).2)).1).time, ((r9read_m ((r5readTag_m ((rsigned_m ((rtext_m ((rint_m t 6).2) 12).2)).2)).2)).1).origin⟩ : StampM), ([] : List TagM)⟩ : EffectM), (rfail_m ((r9read_m ((r5readTag_m ((rsigned_m ((rtext_m ((rint_m t 6).2) 12).2)).2)).2)).2) (r14checkE_m (⟨(rint_m t 6).1, (rtext_m ((rint_m t 6).2) 12).1, (rsigned_m ((rtext_m ((rint_m t 6).2) 12).2)).1, (⟨(⟨((r5readTag_m ((rsigned_m ((rtext_m ((rint_m t 6).2) 12).2)).2)).1).id.origin, ((r5readTag_m ((rsigned_m ((rtext_m ((rint_m t 6).2) 12).2)).2)).1).id.seq⟩ : IdM), ((r5readTag_m ((rsigned_m ((rtext_m ((rint_m t 6).2) 12).2)).2)).1).n⟩ : TagM), (⟨((r9read_m ((r5readTag_m ((rsigned_m ((rtext_m ((rint_m t 6).2) 12).2)).2)).2)).1).time, ((r9read_m ((r5readTag_m ((rsigned_m ((rtext_m ((rint_m t 6).2) 12).2)).2)).2)).1).origin⟩ : StampM), ([] : List TagM)⟩ : EffectM))))
        else
          ((⟨0, [], 0, (⟨(⟨0, 0⟩ : IdM), 0⟩ : TagM), (⟨0, 0⟩ : StampM), ([] : List TagM)⟩ : EffectM), (rfail_m ((r9read_m ((r5readTag_m ((rsigned_m ((rtext_m ((rint_m t 6).2) 12).2)).2)).2)).2) (r14checkE_m (⟨(rint_m t 6).1, (rtext_m ((rint_m t 6).2) 12).1, (rsigned_m ((rtext_m ((rint_m t 6).2) 12).2)).1, (⟨(⟨((r5readTag_m ((rsigned_m ((rtext_m ((rint_m t 6).2) 12).2)).2)).1).id.origin, ((r5readTag_m ((rsigned_m ((rtext_m ((rint_m t 6).2) 12).2)).2)).1).id.seq⟩ : IdM), ((r5readTag_m ((rsigned_m ((rtext_m ((rint_m t 6).2) 12).2)).2)).1).n⟩ : TagM), (⟨((r9read_m ((r5readTag_m ((rsigned_m ((rtext_m ((rint_m t 6).2) 12).2)).2)).2)).1).time, ((r9read_m ((r5readTag_m ((rsigned_m ((rtext_m ((rint_m t 6).2) 12).2)).2)).2)).1).origin⟩ : StampM), ([] : List TagM)⟩ : EffectM))))
      else
        ((⟨0, [], 0, (⟨(⟨0, 0⟩ : IdM), 0⟩ : TagM), (⟨0, 0⟩ : StampM), ([] : List TagM)⟩ : EffectM), ((r9read_m ((r5readTag_m ((rsigned_m ((rtext_m ((rint_m t 6).2) 12).2)).2)).2)).2))
  else
    if (r14takes_m ((rint_m t 6).1)) = true then
      match r14read_L2 t (((rint_m ((r5readTag_m ((rsigned_m ((rtext_m ((rint_m t 6).2) 12).2)).2)).2) 4096).1 - (0 : Int)).toNat + 1) (0 : Int) ([] : List TagM) (((rint_m ((r5readTag_m ((rsigned_m ((rtext_m ((rint_m t 6).2) 12).2)).2)).2) 4096).2).s) (((rint_m ((r5readTag_m ((rsigned_m ((rtext_m ((rint_m t 6).2) 12).2)).2)).2) 4096).2).a) (((rint_m ((r5readTag_m ((rsigned_m ((rtext_m ((rint_m t 6).2) 12).2)).2)).2) 4096).2).f.atF) (((rint_m ((r5readTag_m ((rsigned_m ((rtext_m ((rint_m t 6).2) 12).2)).2)).2) 4096).2).f.e) with
      | .inl r => r
      | .inr (s5, u1_8, u2_0, u2_1, u2_2, u2_3) =>
        if u2_3 = 0 then
          if ((rfail_m (⟨u2_0, u2_1, (⟨u2_2, u2_3⟩ : FltM)⟩ : RdM) (r14checkE_m (⟨(rint_m t 6).1, (rtext_m ((rint_m t 6).2) 12).1, (rsigned_m ((rtext_m ((rint_m t 6).2) 12).2)).1, (⟨(⟨((r5readTag_m ((rsigned_m ((rtext_m ((rint_m t 6).2) 12).2)).2)).1).id.origin, ((r5readTag_m ((rsigned_m ((rtext_m ((rint_m t 6).2) 12).2)).2)).1).id.seq⟩ : IdM), ((r5readTag_m ((rsigned_m ((rtext_m ((rint_m t 6).2) 12).2)).2)).1).n⟩ : TagM), (⟨0, 0⟩ : StampM), u1_8⟩ : EffectM))).f.e) = 0 then
            ((⟨(rint_m t 6).1, (rtext_m ((rint_m t 6).2) 12).1, (rsigned_m ((rtext_m ((rint_m t 6).2) 12).2)).1, (⟨(⟨((r5readTag_m ((rsigned_m ((rtext_m ((rint_m t 6).2) 12).2)).2)).1).id.origin, ((r5readTag_m ((rsigned_m ((rtext_m ((rint_m t 6).2) 12).2)).2)).1).id.seq⟩ : IdM), ((r5readTag_m ((rsigned_m ((rtext_m ((rint_m t 6).2) 12).2)).2)).1).n⟩ : TagM), (⟨0, 0⟩ : StampM), u1_8⟩ : EffectM), (rfail_m (⟨u2_0, u2_1, (⟨u2_2, u2_3⟩ : FltM)⟩ : RdM) (r14checkE_m (⟨(rint_m t 6).1, (rtext_m ((rint_m t 6).2) 12).1, (rsigned_m ((rtext_m ((rint_m t 6).2) 12).2)).1, (⟨(⟨((r5readTag_m ((rsigned_m ((rtext_m ((rint_m t 6).2) 12).2)).2)).1).id.origin, ((r5readTag_m ((rsigned_m ((rtext_m ((rint_m t 6).2) 12).2)).2)).1).id.seq⟩ : IdM), ((r5readTag_m ((rsigned_m ((rtext_m ((rint_m t 6).2) 12).2)).2)).1).n⟩ : TagM), (⟨0, 0⟩ : StampM), u1_8⟩ : EffectM))))
          else
            ((⟨0, [], 0, (⟨(⟨0, 0⟩ : IdM), 0⟩ : TagM), (⟨0, 0⟩ : StampM), ([] : List TagM)⟩ : EffectM), (rfail_m (⟨u2_0, u2_1, (⟨u2_2, u2_3⟩ : FltM)⟩ : RdM) (r14checkE_m (⟨(rint_m t 6).1, (rtext_m ((rint_m t 6).2) 12).1, (rsigned_m ((rtext_m ((rint_m t 6).2) 12).2)).1, (⟨(⟨((r5readTag_m ((rsigned_m ((rtext_m ((rint_m t 6).2) 12).2)).2)).1).id.origin, ((r5readTag_m ((rsigned_m ((rtext_m ((rint_m t 6).2) 12).2)).2)).1).id.seq⟩ : IdM), ((r5readTag_m ((rsigned_m ((rtext_m ((rint_m t 6).2) 12).2)).2)).1).n⟩ : TagM), (⟨0, 0⟩ : StampM), u1_8⟩ : EffectM))))
        else
          ((⟨0, [], 0, (⟨(⟨0, 0⟩ : IdM), 0⟩ : TagM), (⟨0, 0⟩ : StampM), ([] : List TagM)⟩ : EffectM), (⟨u2_0, u2_1, (⟨u2_2, u2_3⟩ : FltM)⟩ : RdM))
    else
      if (((r5readTag_m ((rsigned_m ((rtext_m ((rint_m t 6).2) 12).2)).2)).2).f.e) = 0 then
        if ((rfail_m ((r5readTag_m ((rsigned_m ((rtext_m ((rint_m t 6).2) 12).2)).2)).2) (r14checkE_m (⟨(rint_m t 6).1, (rtext_m ((rint_m t 6).2) 12).1, (rsigned_m ((rtext_m ((rint_m t 6).2) 12).2)).1, (⟨(⟨((r5readTag_m ((rsigned_m ((rtext_m ((rint_m t 6).2) 12).2)).2)).1).id.origin, ((r5readTag_m ((rsigned_m ((rtext_m ((rint_m t 6).2) 12).2)).2)).1).id.seq⟩ : IdM), ((r5readTag_m ((rsigned_m ((rtext_m ((rint_m t 6).2) 12).2)).2)).1).n⟩ : TagM), (⟨0, 0⟩ : StampM), ([] : List TagM)⟩ : EffectM))).f.e) = 0 then
          ((⟨(rint_m t 6).1, (rtext_m ((rint_m t 6).2) 12).1, (rsigned_m ((rtext_m ((rint_m t 6).2) 12).2)).1, (⟨(⟨((r5readTag_m ((rsigned_m ((rtext_m ((rint_m t 6).2) 12).2)).2)).1).id.origin, ((r5readTag_m ((rsigned_m ((rtext_m ((rint_m t 6).2) 12).2)).2)).1).id.seq⟩ : IdM), ((r5readTag_m ((rsigned_m ((rtext_m ((rint_m t 6).2) 12).2)).2)).1).n⟩ : TagM), (⟨0, 0⟩ : StampM), ([] : List TagM)⟩ : EffectM), (rfail_m ((r5readTag_m ((rsigned_m ((rtext_m ((rint_m t 6).2) 12).2)).2)).2) (r14checkE_m (⟨(rint_m t 6).1, (rtext_m ((rint_m t 6).2) 12).1, (rsigned_m ((rtext_m ((rint_m t 6).2) 12).2)).1, (⟨(⟨((r5readTag_m ((rsigned_m ((rtext_m ((rint_m t 6).2) 12).2)).2)).1).id.origin, ((r5readTag_m ((rsigned_m ((rtext_m ((rint_m t 6).2) 12).2)).2)).1).id.seq⟩ : IdM), ((r5readTag_m ((rsigned_m ((rtext_m ((rint_m t 6).2) 12).2)).2)).1).n⟩ : TagM), (⟨0, 0⟩ : StampM), ([] : List TagM)⟩ : EffectM))))
        else
          ((⟨0, [], 0, (⟨(⟨0, 0⟩ : IdM), 0⟩ : TagM), (⟨0, 0⟩ : StampM), ([] : List TagM)⟩ : EffectM), (rfail_m ((r5readTag_m ((rsigned_m ((rtext_m ((rint_m t 6).2) 12).2)).2)).2) (r14checkE_m (⟨(rint_m t 6).1, (rtext_m ((rint_m t 6).2) 12).1, (rsigned_m ((rtext_m ((rint_m t 6).2) 12).2)).1, (⟨(⟨((r5readTag_m ((rsigned_m ((rtext_m ((rint_m t 6).2) 12).2)).2)).1).id.origin, ((r5readTag_m ((rsigned_m ((rtext_m ((rint_m t 6).2) 12).2)).2)).1).id.seq⟩ : IdM), ((r5readTag_m ((rsigned_m ((rtext_m ((rint_m t 6).2) 12).2)).2)).1).n⟩ : TagM), (⟨0, 0⟩ : StampM), ([] : List TagM)⟩ : EffectM))))
      else
        ((⟨0, [], 0, (⟨(⟨0, 0⟩ : IdM), 0⟩ : TagM), (⟨0, 0⟩ : StampM), ([] : List TagM)⟩ : EffectM), ((r5readTag_m ((rsigned_m ((rtext_m ((rint_m t 6).2) 12).2)).2)).2))

theorem r14read_c1_iff (t : RdM) (s5 : Int) (u1_8 : List TagM) (u2_0 : List UInt8) (u2_1 : Int) (u2_2 : Int) (u2_3 : Int) : (r14read_c1 t s5 u1_8 u2_0 u2_1 u2_2 u2_3 = true) ↔ ((s5 < ((rint_m ((r9read_m ((r5readTag_m ((rsigned_m ((rtext_m ((rint_m t 6).2) 12).2)).2)).2)).2) 4096).1)) ∧ (u2_3 = 0)) := by
  unfold r14read_c1; exact (ci2 beq_iff_eq)

theorem r14read_c2_iff (t : RdM) (s5 : Int) (u1_8 : List TagM) (u2_0 : List UInt8) (u2_1 : Int) (u2_2 : Int) (u2_3 : Int) : (r14read_c2 t s5 u1_8 u2_0 u2_1 u2_2 u2_3 = true) ↔ ((s5 < ((rint_m ((r5readTag_m ((rsigned_m ((rtext_m ((rint_m t 6).2) 12).2)).2)).2) 4096).1)) ∧ (u2_3 = 0)) := by
  unfold r14read_c2; exact (ci2 beq_iff_eq)

set_option maxRecDepth 20000 in
theorem r14read_ok (X : List Nat) (w : World) (g_t : Nat) (t : RdM) (hs : St X w [(some g_t, Cl [sv t.s, .int .i64 t.a, .int .i64 t.f.atF, .int .i64 t.f.e] 57)] []) (ht : Rok t) :
    Fn Tryz.prog 12 [.pointer (some ⟨g_t, 0, none⟩)] w fun v w' => ∃ (A1 : Option Addr) (C1 : Nat), v = .agg #[.int .i64 (((r14read_m t).1).act), sv (((r14read_m t).1).name), .int .i64 (((r14read_m t).1).val), .int .i64 ((((r14read_m t).1).tag).id.origin), .int .u32 ((((r14read_m t).1).tag).id.seq), .int .i64 ((((r14read_m t).1).tag).n), .int .u32 ((((r14read_m t).1).atF).time), .int .i64 ((((r14read_m t).1).atF).origin), .slice A1 (((r14read_m t).1).tags).length C1] ∧ St X w' [(some g_t, Cl [sv (((r14read_m t).2).s), .int .i64 (((r14read_m t).2).a), .int .i64 (((r14read_m t).2).f.atF), .int .i64 (((r14read_m t).2).f.e)] 57)] [kS A1 (((r14read_m t).1).tags).length C1 3 ((((r14read_m t).1).tags).flatMap tagMC)] ∧ Fr (keys [(some g_t, Cl [sv t.s, .int .i64 t.a, .int .i64 t.f.atF, .int .i64 t.f.e] 57)]) w w' ∧ (∀ k ∈ keys [(some g_t, Cl [sv (((r14read_m t).2).s), .int .i64 (((r14read_m t).2).a), .int .i64 (((r14read_m t).2).f.atF), .int .i64 (((r14read_m t).2).f.e)] 57)], k ∈ (keys [(some g_t, Cl [sv t.s, .int .i64 t.a, .int .i64 t.f.atF, .int .i64 t.f.e] 57)]) ∨ w.heap.size ≤ k) := by
  refine Fn_of 67 Ty.en_12 Tryz.func12 rfl rfl rfl ?_
  dsimp only [argEnv]
  have hs0 := hs
  have st : St X w [(some g_t, Cl [sv t.s, .int .i64 t.a, .int .i64 t.f.atF, .int .i64 t.f.e] 57)] [] := hs
  have hF := Fr.refl (keys [(some g_t, Cl [sv t.s, .int .i64 t.a, .int .i64 t.f.atF, .int .i64 t.f.e] 57)]) w
  have htb := ht.b
  refine sq fun _ k1 => rg (La rfl (Sal Ty.zc_31 st hF rfl fun g1 w1 (st : St _ _ [_, _] _) hF hg1 => Ln k1 (sq fun _ k2 => rg (Lm rfl (La rfl (a_call rfl rfl rfl rfl (rint_ok (keys (pickL (hOf st) [1]) ++ X) _ g_t t 6 (st.sub [1] [0] [] (by decide)) (by assumption) (by first | decide | omega)) (fun v w2 ⟨hv, hN1, hfO1, hkc1⟩ => ?_)))))))
  subst hv
  have st := st.callS [1] [0] (by decide) rfl hN1 hfO1 hkc1
  have hF := hF.step hfO1 (kc_s (.inl (by simp [keys])) (kc_n))
  have st : St X w2 [_, _] [] := st
  have hrk1 : Rok ((rint_m t 6).2) := rint_rok (by assumption)
  have hrk1b := hrk1.b
  have hrvu1 : 0 ≤ ((rint_m t 6).1) ∧ ((rint_m t 6).1) ≤ 1048576 := rint_le (by assumption) (by decide)
  refine Ly rfl (y_build (cells := [_, _, _, _, _, _, _, _, _]) rfl rfl Ty.zc_31 Ty.ps_31 rfl) (La rfl (Sal Ty.zc_31 st hF rfl fun g2 w3 (st : St _ _ [_, _, _] _) hF hg2 => La rfl (Ssw 2 Ty.sz_31 st hF (.inr hg2) rfl fun w4 (st : St _ _ [_, _, _] _) hF => Ln k2 (sq fun _ k3 => rg (Lm rfl (La rfl (a_call rfl rfl rfl rfl (rtext_ok (keys (pickL (hOf st) [0, 2]) ++ X) _ g_t ((rint_m t 6).2) 12 (st.sub [0, 2] [1] [] (by decide)) (by assumption) (by first | decide | omega)) (fun v w5 ⟨hv, hN2, hfO2, hkc2⟩ => ?_))))))))
  subst hv
  have st := st.callS [0, 2] [1] (by decide) rfl hN2 hfO2 hkc2
  have hF := hF.step hfO2 (kc_s (.inl (by simp [keys])) (kc_n))
  have st : St X w5 [_, _, _] [] := st
  have hrk2 : Rok ((rtext_m ((rint_m t 6).2) 12).2) := rtext_rok (by assumption)
  have hrk2b := hrk2.b
  refine Ly rfl (yf rfl Ty.fo_31_1) (La rfl (Ss1 1 Ty.sz_9 st hF (.inr hg2) rfl fun w6 (st : St _ _ [_, (_, Cl [_, _, _, _, _, _, _, _, _] _), _] _) hF => Ln k3 (sq fun _ k4 => rg (Lm rfl (La rfl (a_call rfl rfl rfl rfl (rsigned_ok (keys (pickL (hOf st) [0, 1]) ++ X) _ g_t ((rtext_m ((rint_m t 6).2) 12).2) (st.sub [0, 1] [2] [] (by decide)) (by assumption)) (fun v w7 ⟨hv, hN3, hfO3, hkc3⟩ => ?_)))))))
  subst hv
  have st := st.callS [0, 1] [2] (by decide) rfl hN3 hfO3 hkc3
  have hF := hF.step hfO3 (kc_s (.inl (by simp [keys])) (kc_n))
  have st : St X w7 [_, _, _] [] := st
  have hrk3 : Rok ((rsigned_m ((rtext_m ((rint_m t 6).2) 12).2)).2) := rsigned_rok (by assumption)
  have hrk3b := hrk3.b
  refine Ly rfl (yf rfl Ty.fo_31_2) (La rfl (Ss1 1 Ty.sz_2 st hF (.inr hg2) rfl fun w8 (st : St _ _ [_, (_, Cl [_, _, _, _, _, _, _, _, _] _), _] _) hF => Ln k4 (sq fun _ k5 => rg (Lm rfl (La rfl (a_call rfl rfl rfl rfl (r5readTag_ok (keys (pickL (hOf st) [0, 1]) ++ X) _ g_t ((rsigned_m ((rtext_m ((rint_m t 6).2) 12).2)).2) (st.sub [0, 1] [2] [] (by decide)) (by assumption)) (fun v w9 ⟨hv, hN4, hfO4, hkc4⟩ => ?_)))))))
  subst hv
  have st := st.callS [0, 1] [2] (by decide) rfl hN4 hfO4 hkc4
  have hF := hF.step hfO4 (kc_s (.inl (by simp [keys])) (kc_n))
  have st : St X w9 [_, _, _] [] := st
  have hrk4 : Rok ((r5readTag_m ((rsigned_m ((rtext_m ((rint_m t 6).2) 12).2)).2)).2) := r5readTag_rok (by assumption)
  have hrk4b := hrk4.b
  refine Ly rfl (yf rfl Ty.fo_31_3) (La rfl (Ssm 1 Ty.sz_26 st hF (.inr hg2) rfl fun w10 (st : St _ _ [_, (_, Cl [_, _, _, _, _, _, _, _, _] _), _] _) hF => Ln k5 (sq fun _ k6 => sq fun _ k7 => rg (Ly rfl (yf rfl Ty.fo_31_0) (Ly rfl (yl 1 Ty.pl_3 st rfl) (La rfl (Scl st hF rfl (r14timed_ok _ ((rint_m t 6).1)) fun w11 st hF => Ln k7 (cB rfl (fun hc1 => ?_) (fun hc1 => ?_)))))))))
  · refine rg (Lm rfl (La rfl (a_call rfl rfl rfl rfl (r9read_ok (keys (pickL (hOf st) [0, 1]) ++ X) _ g_t ((r5readTag_m ((rsigned_m ((rtext_m ((rint_m t 6).2) 12).2)).2)).2) (st.sub [0, 1] [2] [] (by decide)) (by assumption)) (fun v w12 ⟨hv, hN5, hfO5, hkc5⟩ => ?_))))
    subst hv
    have st := st.callS [0, 1] [2] (by decide) rfl hN5 hfO5 hkc5
    have hF := hF.step hfO5 (kc_s (.inl (by simp [keys])) (kc_n))
    have st : St X w12 [_, _, _] [] := st
    have hrk5 : Rok ((r9read_m ((r5readTag_m ((rsigned_m ((rtext_m ((rint_m t 6).2) 12).2)).2)).2)).2) := r9read_rok (by assumption)
    have hrk5b := hrk5.b
    refine Ly rfl (yf rfl Ty.fo_31_4) (La rfl (Ssm 1 Ty.sz_28 st hF (.inr hg2) rfl fun w13 (st : St _ _ [_, (_, Cl [_, _, _, _, _, _, _, _, _] _), _] _) hF => Ln k6 (sq fun _ k8 => sq fun _ k9 => rg (Ly rfl (yf rfl Ty.fo_31_0) (Ly rfl (yl 1 Ty.pl_3 st rfl) (La rfl (Scl st hF rfl (r14takes_ok _ ((rint_m t 6).1)) fun w14 st hF => Ln k9 (cB rfl (fun hc2 => ?_) (fun hc2 => ?_)))))))))
    · refine sq fun _ k10 => rg (Lm rfl (La rfl (a_call rfl rfl rfl rfl (rint_ok (keys (pickL (hOf st) [0, 1]) ++ X) _ g_t ((r9read_m ((r5readTag_m ((rsigned_m ((rtext_m ((rint_m t 6).2) 12).2)).2)).2)).2) 4096 (st.sub [0, 1] [2] [] (by decide)) (by assumption) (by first | decide | omega)) (fun v w15 ⟨hv, hN6, hfO6, hkc6⟩ => ?_))))
      subst hv
      have st := st.callS [0, 1] [2] (by decide) rfl hN6 hfO6 hkc6
      have hF := hF.step hfO6 (kc_s (.inl (by simp [keys])) (kc_n))
      have st : St X w15 [_, _, _] [] := st
      have hrk6 : Rok ((rint_m ((r9read_m ((r5readTag_m ((rsigned_m ((rtext_m ((rint_m t 6).2) 12).2)).2)).2)).2) 4096).2) := rint_rok (by assumption)
      have hrk6b := hrk6.b
      have hrvu2 : 0 ≤ ((rint_m ((r9read_m ((r5readTag_m ((rsigned_m ((rtext_m ((rint_m t 6).2) 12).2)).2)).2)).2) 4096).1) ∧ ((rint_m ((r9read_m ((r5readTag_m ((rsigned_m ((rtext_m ((rint_m t 6).2) 12).2)).2)).2)).2) 4096).1) ≤ 1048576 := rint_le (by assumption) (by decide)
      refine Ls' rfl (Ln k10 (sq fun _ k11 => rg (Ls' rfl (Ln k11 (Wp_block ?_)))))
      obtain ⟨st, how1, hnew1⟩ := st.rowN tagMC hF 3 26
      have st : St _ _ [_, _, _, _] _ := st
      refine lp (fun q E W => ∃ (s5 : Int) (u1_8 : List TagM) (u2_0 : List UInt8) (u2_1 : Int) (u2_2 : Int) (u2_3 : Int) (Au1_8 : Option Addr) (cu1_8 : Nat) (spu1_8 : List Value), E = [(0, .pointer (some ⟨g_t, 0, none⟩)), (2, .pointer (some ⟨g1, 0, none⟩)), (3, .pointer (some ⟨g2, 0, none⟩)), (4, .int .i64 ((rint_m ((r9read_m ((r5readTag_m ((rsigned_m ((rtext_m ((rint_m t 6).2) 12).2)).2)).2)).2) 4096).1)), (5, .int .i64 s5)] ∧ jq q (fun m => (r14read_L1 t m s5 u1_8 u2_0 u2_1 u2_2 u2_3 = r14read_L1 t (((rint_m ((r9read_m ((r5readTag_m ((rsigned_m ((rtext_m ((rint_m t 6).2) 12).2)).2)).2)).2) 4096).1 - (0 : Int)).toNat + 1) (0 : Int) ([] : List TagM) (((rint_m ((r9read_m ((r5readTag_m ((rsigned_m ((rtext_m ((rint_m t 6).2) 12).2)).2)).2)).2) 4096).2).s) (((rint_m ((r9read_m ((r5readTag_m ((rsigned_m ((rtext_m ((rint_m t 6).2) 12).2)).2)).2)).2) 4096).2).a) (((rint_m ((r9read_m ((r5readTag_m ((rsigned_m ((rtext_m ((rint_m t 6).2) 12).2)).2)).2)).2) 4096).2).f.atF) (((rint_m ((r9read_m ((r5readTag_m ((rsigned_m ((rtext_m ((rint_m t 6).2) 12).2)).2)).2)).2) 4096).2).f.e) ∧ ((rint_m ((r9read_m ((r5readTag_m ((rsigned_m ((rtext_m ((rint_m t 6).2) 12).2)).2)).2)).2) 4096).1 - s5).toNat < m)) (r14read_L1 t (((rint_m ((r9read_m ((r5readTag_m ((rsigned_m ((rtext_m ((rint_m t 6).2) 12).2)).2)).2)).2) 4096).1 - (0 : Int)).toNat + 1) (0 : Int) ([] : List TagM) (((rint_m ((r9read_m ((r5readTag_m ((rsigned_m ((rtext_m ((rint_m t 6).2) 12).2)).2)).2)).2) 4096).2).s) (((rint_m ((r9read_m ((r5readTag_m ((rsigned_m ((rtext_m ((rint_m t 6).2) 12).2)).2)).2)).2) 4096).2).a) (((rint_m ((r9read_m ((r5readTag_m ((rsigned_m ((rtext_m ((rint_m t 6).2) 12).2)).2)).2)).2) 4096).2).f.atF) (((rint_m ((r9read_m ((r5readTag_m ((rsigned_m ((rtext_m ((rint_m t 6).2) 12).2)).2)).2)).2) 4096).2).f.e) = .inr (s5, u1_8, u2_0, u2_1, u2_2, u2_3)) ∧ (0 ≤ s5 ∧ Rok (⟨u2_0, u2_1, (⟨u2_2, u2_3⟩ : FltM)⟩ : RdM) ∧ (u1_8.length : Int) ≤ s5) ∧ Ow Au1_8 u1_8.length cu1_8 3 (u1_8.flatMap tagMC) spu1_8 ∧ (∀ g, blkOf Au1_8 = some g → g ∈ (keys [(some g_t, Cl [sv t.s, .int .i64 t.a, .int .i64 t.f.atF, .int .i64 t.f.e] 57)]) ∨ w.heap.size ≤ g) ∧ St X W [(some g1, Cl [.int .i64 0, sv [], .int .i64 0, .int .i64 0, .int .u32 0, .int .i64 0, .int .u32 0, .int .i64 0, .slice none 0 0] 31), (some g2, Cl [.int .i64 ((rint_m t 6).1), sv ((rtext_m ((rint_m t 6).2) 12).1), .int .i64 ((rsigned_m ((rtext_m ((rint_m t 6).2) 12).2)).1), .int .i64 (((r5readTag_m ((rsigned_m ((rtext_m ((rint_m t 6).2) 12).2)).2)).1).id.origin), .int .u32 (((r5readTag_m ((rsigned_m ((rtext_m ((rint_m t 6).2) 12).2)).2)).1).id.seq), .int .i64 (((r5readTag_m ((rsigned_m ((rtext_m ((rint_m t 6).2) 12).2)).2)).1).n), .int .u32 (((r9read_m ((r5readTag_m ((rsigned_m ((rtext_m ((rint_m t 6).2) 12).2)).2)).2)).1).time), .int .i64 (((r9read_m ((r5readTag_m ((rsigned_m ((rtext_m ((rint_m t 6).2) 12).2)).2)).2)).1).origin), .slice Au1_8 u1_8.length cu1_8] 31), (some g_t, Cl [sv u2_0, .int .i64 u2_1, .int .i64 u2_2, .int .i64 u2_3] 57), (blkOf Au1_8, Cl (u1_8.flatMap tagMC ++ spu1_8) 26)] [] ∧ Fr (keys [(some g_t, Cl [sv t.s, .int .i64 t.a, .int .i64 t.f.atF, .int .i64 t.f.e] 57)]) w W) (((rint_m ((r9read_m ((r5readTag_m ((rsigned_m ((rtext_m ((rint_m t 6).2) 12).2)).2)).2)).2) 4096).1 - (0 : Int)).toNat + 1) [(0, _), (2, _), (3, _), (4, _), (5, _)] ⟨rfl, rfl, rfl, rfl, rfl, trivial⟩ ⟨_, _, _, _, _, _, _, _, _, rfl, ⟨rfl, Nat.lt_succ_self _⟩, by exact ⟨by first | omega | (simp; done) | (simp; omega), by assumption, by first | omega | (simp; done) | (simp; omega)⟩, how1, hnew1, st, hF⟩ k8 ?_ fun hout1 => ?_
      · rintro E w16 ⟨s5, u1_8, u2_0, u2_1, u2_2, u2_3, Au1_8, cu1_8, spu1_8, rfl, hLk1, hinv, howu1_8, newu1_8, st, hF⟩
        unfold jq at hLk1; dsimp only at hLk1
        obtain ⟨hi1, hi3, hi2⟩ := hinv
        refine sq fun _ k12 => sq fun _ k13 => rg (Lm rfl (Ly rfl (y_nil rfl rfl) (Ly rfl (yf rfl Ty.fo_57_2) (Ly rfl (yf rfl Ty.fo_55_1) (Ly rfl (yl 2 Ty.pl_45 st rfl) (Ly rfl (yeq rfl) (Ln k13 (cE rfl (fun hc3 => ?_) (fun hc3 => ?_)))))))))
        · refine rg (Lm rfl (Ly rfl (yw 1 Ty.ag_31 st rfl) (La rfl (Scl st hF rfl (r14checkE_ok (keys (pickL (hOf st) [0, 1, 2]) ++ X) _ (st.sub [0, 1, 2] [] [] (by decide)).lo (⟨(rint_m t 6).1, (rtext_m ((rint_m t 6).2) 12).1, (rsigned_m ((rtext_m ((rint_m t 6).2) 12).2)).1, (⟨(⟨((r5readTag_m ((rsigned_m ((rtext_m ((rint_m t 6).2) 12).2)).2)).1).id.origin, ((r5readTag_m ((rsigned_m ((rtext_m ((rint_m t 6).2) 12).2)).2)).1).id.seq⟩ : IdM), ((r5readTag_m ((rsigned_m ((rtext_m ((rint_m t 6).2) 12).2)).2)).1).n⟩ : TagM), (⟨((r9read_m ((r5readTag_m ((rsigned_m ((rtext_m ((rint_m t 6).2) 12).2)).2)).2)).1).time, ((r9read_m ((r5readTag_m ((rsigned_m ((rtext_m ((rint_m t 6).2) 12).2)).2)).2)).1).origin⟩ : StampM), u1_8⟩ : EffectM) Au1_8 cu1_8 ((st.freeze (i := 3) [0, 1, 2] (by decide) rfl howu1_8 (by decide)).k (i := 0) rfl)) fun w17 st hF => ?_))))
          refine La rfl (a_call rfl rfl rfl rfl (rfail_ok (keys (pickL (hOf st) [0, 1, 3]) ++ X) _ g_t (⟨u2_0, u2_1, (⟨u2_2, u2_3⟩ : FltM)⟩ : RdM) (r14checkE_m (⟨(rint_m t 6).1, (rtext_m ((rint_m t 6).2) 12).1, (rsigned_m ((rtext_m ((rint_m t 6).2) 12).2)).1, (⟨(⟨((r5readTag_m ((rsigned_m ((rtext_m ((rint_m t 6).2) 12).2)).2)).1).id.origin, ((r5readTag_m ((rsigned_m ((rtext_m ((rint_m t 6).2) 12).2)).2)).1).id.seq⟩ : IdM), ((r5readTag_m ((rsigned_m ((rtext_m ((rint_m t 6).2) 12).2)).2)).1).n⟩ : TagM), (⟨((r9read_m ((r5readTag_m ((rsigned_m ((rtext_m ((rint_m t 6).2) 12).2)).2)).2)).1).time, ((r9read_m ((r5readTag_m ((rsigned_m ((rtext_m ((rint_m t 6).2) 12).2)).2)).2)).1).origin⟩ : StampM), u1_8⟩ : EffectM)) (st.sub [0, 1, 3] [2] [] (by decide))) (fun v w18 ⟨hv, hN7, hfO7, hkc7⟩ => ?_))
          subst hv
          have st := st.callS [0, 1, 3] [2] (by decide) rfl hN7 hfO7 hkc7
          have hF := hF.step hfO7 (kc_s (.inl (by simp [keys])) (kc_n))
          have st : St X w18 [_, _, _, _] [] := st
          have hrk7 : Rok (rfail_m (⟨u2_0, u2_1, (⟨u2_2, u2_3⟩ : FltM)⟩ : RdM) (r14checkE_m (⟨(rint_m t 6).1, (rtext_m ((rint_m t 6).2) 12).1, (rsigned_m ((rtext_m ((rint_m t 6).2) 12).2)).1, (⟨(⟨((r5readTag_m ((rsigned_m ((rtext_m ((rint_m t 6).2) 12).2)).2)).1).id.origin, ((r5readTag_m ((rsigned_m ((rtext_m ((rint_m t 6).2) 12).2)).2)).1).id.seq⟩ : IdM), ((r5readTag_m ((rsigned_m ((rtext_m ((rint_m t 6).2) 12).2)).2)).1).n⟩ : TagM), (⟨((r9read_m ((r5readTag_m ((rsigned_m ((rtext_m ((rint_m t 6).2) 12).2)).2)).2)).1).time, ((r9read_m ((r5readTag_m ((rsigned_m ((rtext_m ((rint_m t 6).2) 12).2)).2)).2)).1).origin⟩ : StampM), u1_8⟩ : EffectM))) := rfail_rok (by assumption)
          have hrk7b := hrk7.b
          refine Ln k12 (sq fun _ k14 => sq fun _ k15 => rg (Lm rfl (Ly rfl (y_nil rfl rfl) (Ly rfl (yf rfl Ty.fo_57_2) (Ly rfl (yf rfl Ty.fo_55_1) (Ly rfl (yl 3 Ty.pl_45 st rfl) (Ly rfl (yne rfl) (Ln k15 (cN rfl (fun hc4 => ?_) (fun hc4 => ?_))))))))))
          · refine sq fun _ k16 => rg (Ly rfl (y_build (cells := [_, _, _, _, _, _, _, _, _]) rfl rfl Ty.zc_31 Ty.ps_31 rfl) (La rfl (Ssw 0 Ty.sz_31 st hF (.inr hg1) rfl fun w19 (st : St _ _ [_, _, _, _] _) hF => Ln k16 ?_)))
            have st := st.aN 3
            refine Wp_ret (Th_r (Fq_ret (ResN1 rfl (rvc (i := 0) rfl Ty.ag_31 st.hp rfl rfl)) ?_))
            unfold r14read_m; rewrite [if_pos hc1, if_pos hc2, hLk1]; (try dsimp only); rewrite [if_pos hc3, if_neg hc4]
            exact ⟨_, _, rfl, (st.picks [3] (by decide)).pickK [0], hF, kc_s (.inl (by simp [keys])) (kc_n)⟩
          refine sk k14 (sq fun _ k17 => rg (Ly rfl (yw 1 Ty.ag_31 st rfl) (La rfl (Ssw 0 Ty.sz_31 st hF (.inr hg1) rfl fun w20 (st : St _ _ [_, _, _, _] _) hF => Ln k17 ?_))))
          have st : St X w20 [_, _, _] [_] := st.freeze (i := 2) [0, 1, 3] (by decide) rfl howu1_8 (by decide)
          refine Wp_ret (Fq_ret (ResN1 rfl (rvc (i := 0) rfl Ty.ag_31 st.hp rfl rfl)) ?_)
          unfold r14read_m; rewrite [if_pos hc1, if_pos hc2, hLk1]; (try dsimp only); rewrite [if_pos hc3, if_pos hc4]
          exact ⟨_, _, rfl, (st.picks [2] (by decide)).pickK [0], hF, kc_s (.inl (by simp [keys])) (kc_n)⟩
        refine sk k12 (sq fun _ k18 => sq fun _ k19 => rg (Lm rfl (Ly rfl (y_nil rfl rfl) (Ly rfl (yf rfl Ty.fo_57_2) (Ly rfl (yf rfl Ty.fo_55_1) (Ly rfl (yl 2 Ty.pl_45 st rfl) (Ly rfl (yne rfl) (Ln k19 (Wp_cond rfl (fun _ => ?_) (fun hc5 => absurd hc5 (by simp [hc3])))))))))))
        refine sq fun _ k20 => rg (Ly rfl (y_build (cells := [_, _, _, _, _, _, _, _, _]) rfl rfl Ty.zc_31 Ty.ps_31 rfl) (La rfl (Ssw 0 Ty.sz_31 st hF (.inr hg1) rfl fun w21 (st : St _ _ [_, _, _, _] _) hF => Ln k20 ?_)))
        have st := st.aN 3
        refine Wp_ret (Th_r (Fq_ret (ResN1 rfl (rvc (i := 0) rfl Ty.ag_31 st.hp rfl rfl)) ?_))
        unfold r14read_m; rewrite [if_pos hc1, if_pos hc2, hLk1]; (try dsimp only); rewrite [if_neg hc3]
        exact ⟨_, _, rfl, (st.picks [2] (by decide)).pickK [0], hF, kc_s (.inl (by simp [keys])) (kc_n)⟩
      rintro m E w22 ⟨s5, u1_8, u2_0, u2_1, u2_2, u2_3, Au1_8, cu1_8, spu1_8, rfl, ⟨hL1, hmu⟩, hinv, howu1_8, newu1_8, st, hF⟩
      obtain ⟨fuel, rfl⟩ : ∃ q, m = q + 1 := ⟨m - 1, by omega⟩
      obtain ⟨hi1, hi3, hi2⟩ := hinv
      have z1 := Ow.le howu1_8
      refine sq fun _ k21 => sq fun _ k22 => ?_
      refine use_out k22 (fun E W => E = [(0, .pointer (some ⟨g_t, 0, none⟩)), (2, .pointer (some ⟨g1, 0, none⟩)), (3, .pointer (some ⟨g2, 0, none⟩)), (4, .int .i64 ((rint_m ((r9read_m ((r5readTag_m ((rsigned_m ((rtext_m ((rint_m t 6).2) 12).2)).2)).2)).2) 4096).1)), (5, .int .i64 s5), (39, .bool (r14read_c1 t s5 u1_8 u2_0 u2_1 u2_2 u2_3))] ∧ St X W (hOf st) (kOf st) ∧ Fr (keys [(some g_t, Cl [sv t.s, .int .i64 t.a, .int .i64 t.f.atF, .int .i64 t.f.e] 57)]) w W) ?_ fun hout2 => ?_
      · rintro E w23 ⟨rfl, st, hF⟩
        have st : St X w23 [_, _, _, _] [] := st
        refine cB rfl (fun hc6 => ?_) (fun hc6 => ?_)
        · have jhc6 := (r14read_c1_iff t s5 u1_8 u2_0 u2_1 u2_2 u2_3).1 hc6
          refine sk k21 (sq fun _ k23 => Wp_block ?_)
          refine Wp_planF (fun W => St X W (pickL (hOf st) [0, 1]) (kOf st)) [(true, 0), (true, 1), (true, 2), (false, 3), (false, 4), (false, 5), (true, 6)] 7 Ty.mx_0 (by kernel_rfl) (by kernel_rfl) (by kernel_rfl) rfl ((st.picks [0, 1] (by decide)).drew) ?_
          have st := st.drew
          have hF := hF.step0 (Fr.drew _)
          refine Py rfl (yf rfl Ty.fo_31_5) (Py rfl (y_load (i := 1) rfl rfl Ty.pl_29 (fun _ h => h.hp) rfl rfl) (Pm rfl (Pl_a rfl (wtd0 rfl) (by rfl) ?_)))
          refine a_call rfl rfl rfl rfl (r5readTag_ok (keys (pickL (hOf st) [0, 1, 3]) ++ X) _ g_t (⟨u2_0, u2_1, (⟨u2_2, u2_3⟩ : FltM)⟩ : RdM) (st.sub [0, 1, 3] [2] [] (by decide)) (by assumption)) (fun v w24 ⟨hv, hN8, hfO8, hkc8⟩ => ?_)
          subst hv
          have st := st.callS [0, 1, 3] [2] (by decide) rfl hN8 hfO8 hkc8
          have hF := hF.step hfO8 (kc_s (.inl (by simp [keys])) (kc_n))
          have st : St X w24 [_, _, _, _] [] := st
          refine ⟨(st.picks [0, 1] (by decide)).takeK 0, ?_⟩
          have hrk8 : Rok ((r5readTag_m (⟨u2_0, u2_1, (⟨u2_2, u2_3⟩ : FltM)⟩ : RdM)).2) := r5readTag_rok (by assumption)
          have hrk8b := hrk8.b
          refine Pl_a rfl (wtd0 rfl) (by rfl) ?_
          refine Sb (enc := tagMC) ((r5readTag_m (⟨u2_0, u2_1, (⟨u2_2, u2_3⟩ : FltM)⟩ : RdM)).1) Ty.es_29 Ty.zc_26 (fun _ => rfl) st hF rfl fun g3 w25 how2 hnew2 (st : St _ _ [_, _, _, _, _] _) hF => ?_
          refine ⟨(st.picks [0, 1] (by decide)).takeK 0, ?_⟩
          refine Pl_a rfl (wtd0 rfl) (by rfl) ?_
          refine Sap (enc := tagMC) u1_8 [(r5readTag_m (⟨u2_0, u2_1, (⟨u2_2, u2_3⟩ : FltM)⟩ : RdM)).1] 2 Ty.es_29 Ty.zc_26 Ty.by_26 (fun _ => rfl) tagMC_1 howu1_8 newu1_8 st hF (own_src (i := 4) st.hp rfl how2) (own_none how2) rfl (by first | omega | (simp; done) | (simp; omega)) (by first | omega | (simp; done) | (simp; omega)) fun Aa1 ca1 sp1 w26 how3 hnew3 (st : St _ _ [_, _, _, _, _] _) hF => ?_
          refine ⟨(st.picks [0, 1] (by decide)).takeK 0, ?_⟩
          refine Py rfl (yf rfl Ty.fo_31_5) (Pl_nil (Fin_a rfl (wtd0 rfl) (Ss1 1 Ty.sz_29 st hF (.inr hg2) rfl fun w27 (st : St _ _ [_, (_, Cl [_, _, _, _, _, _, _, _, _] _), _, _, _] _) hF => id (Ib_n (Th_n (k23 _ _ (rg (Lm rfl (Ly rfl (y_add (c := s5 + 1) rfl rfl rfl (wf_i64 (by first | omega | (simp; done) | (simp; omega)))) ?_)))))))))
          refine Ls' rfl (Ls_nil (Th_n (?_)))
          exact ⟨fuel, [(0, _), (2, _), (3, _), (4, _), (5, _)], Nat.lt_succ_self _, ⟨rfl, rfl, rfl, rfl, rfl, trivial⟩, (s5 + 1), (u1_8 ++ [(r5readTag_m (⟨u2_0, u2_1, (⟨u2_2, u2_3⟩ : FltM)⟩ : RdM)).1]), (((r5readTag_m (⟨u2_0, u2_1, (⟨u2_2, u2_3⟩ : FltM)⟩ : RdM)).2).s), (((r5readTag_m (⟨u2_0, u2_1, (⟨u2_2, u2_3⟩ : FltM)⟩ : RdM)).2).a), (((r5readTag_m (⟨u2_0, u2_1, (⟨u2_2, u2_3⟩ : FltM)⟩ : RdM)).2).f.atF), (((r5readTag_m (⟨u2_0, u2_1, (⟨u2_2, u2_3⟩ : FltM)⟩ : RdM)).2).f.e), Aa1, ca1, sp1, rfl, ⟨by rewrite [← hL1, r14read_L1]; rewrite [if_pos hc6]; rfl, by first | omega | (simp; done) | (simp; omega)⟩, by exact ⟨by first | omega | (simp; done) | (simp; omega), by assumption, by first | omega | (simp; done) | (simp; omega)⟩, how3, hnew3, (st.picks [0, 1, 3, 2] (by decide)).pickK [], hF⟩
        have jhc6 := mt (r14read_c1_iff t s5 u1_8 u2_0 u2_1 u2_2 u2_3).2 hc6
        refine Wp_exit (Th_e (Th_e (Ib_hit (Th_n (?_)))))
        exact hout1 _ [(0, _), (2, _), (3, _), (4, _), (5, _)] _ ⟨rfl, rfl, rfl, rfl, rfl, trivial⟩ ⟨s5, u1_8, u2_0, u2_1, u2_2, u2_3, Au1_8, cu1_8, spu1_8, rfl, show _ = _ from by rewrite [← hL1, r14read_L1]; rewrite [if_neg hc6]; rfl, by exact ⟨by first | omega | (simp; done) | (simp; omega), by assumption, by first | omega | (simp; done) | (simp; omega)⟩, howu1_8, newu1_8, (st.picks [0, 1, 2, 3] (by decide)).pickK [], hF⟩
      refine rg (Lm rfl (Lm rfl (Ly rfl (ylt rfl) (Lm rfl (bD (s := 32) rfl (fun hc7 => ?_) (fun hc7 => ?_))))))
      · refine LyT rfl (y_move rfl rfl) (LyT rfl (y_nil rfl rfl) (LyT rfl (yf rfl Ty.fo_57_2) (LyT rfl (yf rfl Ty.fo_55_1) (LyT rfl (yl 2 Ty.pl_45 st rfl) (LyT rfl (yeq rfl) (Ly rfl (yT rfl) (Ls_nil (Th_n (?_)))))))))
        exact hout2 _ [(0, _), (2, _), (3, _), (4, _), (5, _), (39, _)] _ ⟨rfl, rfl, rfl, rfl, rfl, rfl, trivial⟩ ⟨by unfold r14read_c1; rewrite [if_pos hc7]; rfl, (st.picks [0, 1, 2, 3] (by decide)).pickK [], hF⟩
      refine LsF rfl (LsF rfl (LsF rfl (LsF rfl (LsF rfl (LsF rfl (Ly rfl (yF rfl) (Ls_nil (Th_n (?_)))))))))
      exact hout2 _ [(0, _), (2, _), (3, _), (4, _), (5, _), (39, _)] _ ⟨rfl, rfl, rfl, rfl, rfl, rfl, trivial⟩ ⟨by unfold r14read_c1; rewrite [if_neg hc7]; rfl, (st.picks [0, 1, 2, 3] (by decide)).pickK [], hF⟩
    refine sk k8 (sq fun _ k24 => sq fun _ k25 => rg (Lm rfl (Ly rfl (y_nil rfl rfl) (Ly rfl (yf rfl Ty.fo_57_2) (Ly rfl (yf rfl Ty.fo_55_1) (Ly rfl (yl 2 Ty.pl_45 st rfl) (Ly rfl (yeq rfl) (Ln k25 (cE rfl (fun hc8 => ?_) (fun hc8 => ?_))))))))))
    · refine rg (Lm rfl (Ly rfl (yw 1 Ty.ag_31 st rfl) ?_))
      have st := st.aN 3
      refine La rfl (Scl st hF rfl (r14checkE_ok (keys (hOf st) ++ X) _ st.Lo (⟨(rint_m t 6).1, (rtext_m ((rint_m t 6).2) 12).1, (rsigned_m ((rtext_m ((rint_m t 6).2) 12).2)).1, (⟨(⟨((r5readTag_m ((rsigned_m ((rtext_m ((rint_m t 6).2) 12).2)).2)).1).id.origin, ((r5readTag_m ((rsigned_m ((rtext_m ((rint_m t 6).2) 12).2)).2)).1).id.seq⟩ : IdM), ((r5readTag_m ((rsigned_m ((rtext_m ((rint_m t 6).2) 12).2)).2)).1).n⟩ : TagM), (⟨((r9read_m ((r5readTag_m ((rsigned_m ((rtext_m ((rint_m t 6).2) 12).2)).2)).2)).1).time, ((r9read_m ((r5readTag_m ((rsigned_m ((rtext_m ((rint_m t 6).2) 12).2)).2)).2)).1).origin⟩ : StampM), ([] : List TagM)⟩ : EffectM) none 0 (st.q 0 rfl)) fun w28 st hF => La rfl (a_call rfl rfl rfl rfl (rfail_ok (keys (pickL (hOf st) [0, 1]) ++ X) _ g_t ((r9read_m ((r5readTag_m ((rsigned_m ((rtext_m ((rint_m t 6).2) 12).2)).2)).2)).2) (r14checkE_m (⟨(rint_m t 6).1, (rtext_m ((rint_m t 6).2) 12).1, (rsigned_m ((rtext_m ((rint_m t 6).2) 12).2)).1, (⟨(⟨((r5readTag_m ((rsigned_m ((rtext_m ((rint_m t 6).2) 12).2)).2)).1).id.origin, ((r5readTag_m ((rsigned_m ((rtext_m ((rint_m t 6).2) 12).2)).2)).1).id.seq⟩ : IdM), ((r5readTag_m ((rsigned_m ((rtext_m ((rint_m t 6).2) 12).2)).2)).1).n⟩ : TagM), (⟨((r9read_m ((r5readTag_m ((rsigned_m ((rtext_m ((rint_m t 6).2) 12).2)).2)).2)).1).time, ((r9read_m ((r5readTag_m ((rsigned_m ((rtext_m ((rint_m t 6).2) 12).2)).2)).2)).1).origin⟩ : StampM), ([] : List TagM)⟩ : EffectM)) (st.sub [0, 1] [2] [] (by decide))) (fun v w29 ⟨hv, hN9, hfO9, hkc9⟩ => ?_)))
      subst hv
      have st := st.callS [0, 1] [2] (by decide) rfl hN9 hfO9 hkc9
      have hF := hF.step hfO9 (kc_s (.inl (by simp [keys])) (kc_n))
      have st : St X w29 [_, _, _] [_] := st
      have hrk9 : Rok (rfail_m ((r9read_m ((r5readTag_m ((rsigned_m ((rtext_m ((rint_m t 6).2) 12).2)).2)).2)).2) (r14checkE_m (⟨(rint_m t 6).1, (rtext_m ((rint_m t 6).2) 12).1, (rsigned_m ((rtext_m ((rint_m t 6).2) 12).2)).1, (⟨(⟨((r5readTag_m ((rsigned_m ((rtext_m ((rint_m t 6).2) 12).2)).2)).1).id.origin, ((r5readTag_m ((rsigned_m ((rtext_m ((rint_m t 6).2) 12).2)).2)).1).id.seq⟩ : IdM), ((r5readTag_m ((rsigned_m ((rtext_m ((rint_m t 6).2) 12).2)).2)).1).n⟩ : TagM), (⟨((r9read_m ((r5readTag_m ((rsigned_m ((rtext_m ((rint_m t 6).2) 12).2)).2)).2)).1).time, ((r9read_m ((r5readTag_m ((rsigned_m ((rtext_m ((rint_m t 6).2) 12).2)).2)).2)).1).origin⟩ : StampM), ([] : List TagM)⟩ : EffectM))) := rfail_rok (by assumption)
      have hrk9b := hrk9.b
      refine Ln k24 (sq fun _ k26 => sq fun _ k27 => rg (Lm rfl (Ly rfl (y_nil rfl rfl) (Ly rfl (yf rfl Ty.fo_57_2) (Ly rfl (yf rfl Ty.fo_55_1) (Ly rfl (yl 2 Ty.pl_45 st rfl) (Ly rfl (yne rfl) (Ln k27 (cN rfl (fun hc9 => ?_) (fun hc9 => ?_))))))))))
      · refine sq fun _ k28 => rg (Ly rfl (y_build (cells := [_, _, _, _, _, _, _, _, _]) rfl rfl Ty.zc_31 Ty.ps_31 rfl) (La rfl (Ssw 0 Ty.sz_31 st hF (.inr hg1) rfl fun w30 (st : St _ _ [_, _, _] _) hF => Ln k28 ?_)))
        have st := st.aN 3
        refine Wp_ret (Th_r (Fq_ret (ResN1 rfl (rvc (i := 0) rfl Ty.ag_31 st.hp rfl rfl)) ?_))
        unfold r14read_m; rewrite [if_pos hc1, if_neg hc2, if_pos hc8, if_neg hc9]
        exact ⟨_, _, rfl, (st.picks [2] (by decide)).pickK [1], hF, kc_s (.inl (by simp [keys])) (kc_n)⟩
      refine sk k26 (sq fun _ k29 => rg (Ly rfl (yw 1 Ty.ag_31 st rfl) (La rfl (Ssw 0 Ty.sz_31 st hF (.inr hg1) rfl fun w31 (st : St _ _ [_, _, _] _) hF => Ln k29 ?_))))
      have st := st.aN 3
      refine Wp_ret (Fq_ret (ResN1 rfl (rvc (i := 0) rfl Ty.ag_31 st.hp rfl rfl)) ?_)
      unfold r14read_m; rewrite [if_pos hc1, if_neg hc2, if_pos hc8, if_pos hc9]
      exact ⟨_, _, rfl, (st.picks [2] (by decide)).pickK [1], hF, kc_s (.inl (by simp [keys])) (kc_n)⟩
    refine sk k24 (sq fun _ k30 => sq fun _ k31 => rg (Lm rfl (Ly rfl (y_nil rfl rfl) (Ly rfl (yf rfl Ty.fo_57_2) (Ly rfl (yf rfl Ty.fo_55_1) (Ly rfl (yl 2 Ty.pl_45 st rfl) (Ly rfl (yne rfl) (Ln k31 (Wp_cond rfl (fun _ => ?_) (fun hc10 => absurd hc10 (by simp [hc8])))))))))))
    refine sq fun _ k32 => rg (Ly rfl (y_build (cells := [_, _, _, _, _, _, _, _, _]) rfl rfl Ty.zc_31 Ty.ps_31 rfl) (La rfl (Ssw 0 Ty.sz_31 st hF (.inr hg1) rfl fun w32 (st : St _ _ [_, _, _] _) hF => Ln k32 ?_)))
    have st := st.aN 3
    refine Wp_ret (Th_r (Fq_ret (ResN1 rfl (rvc (i := 0) rfl Ty.ag_31 st.hp rfl rfl)) ?_))
    unfold r14read_m; rewrite [if_pos hc1, if_neg hc2, if_neg hc8]
    exact ⟨_, _, rfl, (st.picks [2] (by decide)).pickK [0], hF, kc_s (.inl (by simp [keys])) (kc_n)⟩
  refine sk k6 (sq fun _ k33 => sq fun _ k34 => rg (Ly rfl (yf rfl Ty.fo_31_0) (Ly rfl (yl 1 Ty.pl_3 st rfl) (La rfl (Scl st hF rfl (r14takes_ok _ ((rint_m t 6).1)) fun w33 st hF => Ln k34 (cB rfl (fun hc11 => ?_) (fun hc11 => ?_)))))))
  · refine sq fun _ k35 => rg (Lm rfl (La rfl (a_call rfl rfl rfl rfl (rint_ok (keys (pickL (hOf st) [0, 1]) ++ X) _ g_t ((r5readTag_m ((rsigned_m ((rtext_m ((rint_m t 6).2) 12).2)).2)).2) 4096 (st.sub [0, 1] [2] [] (by decide)) (by assumption) (by first | decide | omega)) (fun v w34 ⟨hv, hN10, hfO10, hkc10⟩ => ?_))))
    subst hv
    have st := st.callS [0, 1] [2] (by decide) rfl hN10 hfO10 hkc10
    have hF := hF.step hfO10 (kc_s (.inl (by simp [keys])) (kc_n))
    have st : St X w34 [_, _, _] [] := st
    have hrk10 : Rok ((rint_m ((r5readTag_m ((rsigned_m ((rtext_m ((rint_m t 6).2) 12).2)).2)).2) 4096).2) := rint_rok (by assumption)
    have hrk10b := hrk10.b
    have hrvu3 : 0 ≤ ((rint_m ((r5readTag_m ((rsigned_m ((rtext_m ((rint_m t 6).2) 12).2)).2)).2) 4096).1) ∧ ((rint_m ((r5readTag_m ((rsigned_m ((rtext_m ((rint_m t 6).2) 12).2)).2)).2) 4096).1) ≤ 1048576 := rint_le (by assumption) (by decide)
    refine Ls' rfl (Ln k35 (sq fun _ k36 => rg (Ls' rfl (Ln k36 (Wp_block ?_)))))
    obtain ⟨st, how4, hnew4⟩ := st.rowN tagMC hF 3 26
    have st : St _ _ [_, _, _, _] _ := st
    refine lp (fun q E W => ∃ (s5 : Int) (u1_8 : List TagM) (u2_0 : List UInt8) (u2_1 : Int) (u2_2 : Int) (u2_3 : Int) (Au1_8 : Option Addr) (cu1_8 : Nat) (spu1_8 : List Value), E = [(0, .pointer (some ⟨g_t, 0, none⟩)), (2, .pointer (some ⟨g1, 0, none⟩)), (3, .pointer (some ⟨g2, 0, none⟩)), (4, .int .i64 ((rint_m ((r5readTag_m ((rsigned_m ((rtext_m ((rint_m t 6).2) 12).2)).2)).2) 4096).1)), (5, .int .i64 s5)] ∧ jq q (fun m => (r14read_L2 t m s5 u1_8 u2_0 u2_1 u2_2 u2_3 = r14read_L2 t (((rint_m ((r5readTag_m ((rsigned_m ((rtext_m ((rint_m t 6).2) 12).2)).2)).2) 4096).1 - (0 : Int)).toNat + 1) (0 : Int) ([] : List TagM) (((rint_m ((r5readTag_m ((rsigned_m ((rtext_m ((rint_m t 6).2) 12).2)).2)).2) 4096).2).s) (((rint_m ((r5readTag_m ((rsigned_m ((rtext_m ((rint_m t 6).2) 12).2)).2)).2) 4096).2).a) (((rint_m ((r5readTag_m ((rsigned_m ((rtext_m ((rint_m t 6).2) 12).2)).2)).2) 4096).2).f.atF) (((rint_m ((r5readTag_m ((rsigned_m ((rtext_m ((rint_m t 6).2) 12).2)).2)).2) 4096).2).f.e) ∧ ((rint_m ((r5readTag_m ((rsigned_m ((rtext_m ((rint_m t 6).2) 12).2)).2)).2) 4096).1 - s5).toNat < m)) (r14read_L2 t (((rint_m ((r5readTag_m ((rsigned_m ((rtext_m ((rint_m t 6).2) 12).2)).2)).2) 4096).1 - (0 : Int)).toNat + 1) (0 : Int) ([] : List TagM) (((rint_m ((r5readTag_m ((rsigned_m ((rtext_m ((rint_m t 6).2) 12).2)).2)).2) 4096).2).s) (((rint_m ((r5readTag_m ((rsigned_m ((rtext_m ((rint_m t 6).2) 12).2)).2)).2) 4096).2).a) (((rint_m ((r5readTag_m ((rsigned_m ((rtext_m ((rint_m t 6).2) 12).2)).2)).2) 4096).2).f.atF) (((rint_m ((r5readTag_m ((rsigned_m ((rtext_m ((rint_m t 6).2) 12).2)).2)).2) 4096).2).f.e) = .inr (s5, u1_8, u2_0, u2_1, u2_2, u2_3)) ∧ (0 ≤ s5 ∧ Rok (⟨u2_0, u2_1, (⟨u2_2, u2_3⟩ : FltM)⟩ : RdM) ∧ (u1_8.length : Int) ≤ s5) ∧ Ow Au1_8 u1_8.length cu1_8 3 (u1_8.flatMap tagMC) spu1_8 ∧ (∀ g, blkOf Au1_8 = some g → g ∈ (keys [(some g_t, Cl [sv t.s, .int .i64 t.a, .int .i64 t.f.atF, .int .i64 t.f.e] 57)]) ∨ w.heap.size ≤ g) ∧ St X W [(some g1, Cl [.int .i64 0, sv [], .int .i64 0, .int .i64 0, .int .u32 0, .int .i64 0, .int .u32 0, .int .i64 0, .slice none 0 0] 31), (some g2, Cl [.int .i64 ((rint_m t 6).1), sv ((rtext_m ((rint_m t 6).2) 12).1), .int .i64 ((rsigned_m ((rtext_m ((rint_m t 6).2) 12).2)).1), .int .i64 (((r5readTag_m ((rsigned_m ((rtext_m ((rint_m t 6).2) 12).2)).2)).1).id.origin), .int .u32 (((r5readTag_m ((rsigned_m ((rtext_m ((rint_m t 6).2) 12).2)).2)).1).id.seq), .int .i64 (((r5readTag_m ((rsigned_m ((rtext_m ((rint_m t 6).2) 12).2)).2)).1).n), .int .u32 0, .int .i64 0, .slice Au1_8 u1_8.length cu1_8] 31), (some g_t, Cl [sv u2_0, .int .i64 u2_1, .int .i64 u2_2, .int .i64 u2_3] 57), (blkOf Au1_8, Cl (u1_8.flatMap tagMC ++ spu1_8) 26)] [] ∧ Fr (keys [(some g_t, Cl [sv t.s, .int .i64 t.a, .int .i64 t.f.atF, .int .i64 t.f.e] 57)]) w W) (((rint_m ((r5readTag_m ((rsigned_m ((rtext_m ((rint_m t 6).2) 12).2)).2)).2) 4096).1 - (0 : Int)).toNat + 1) [(0, _), (2, _), (3, _), (4, _), (5, _)] ⟨rfl, rfl, rfl, rfl, rfl, trivial⟩ ⟨_, _, _, _, _, _, _, _, _, rfl, ⟨rfl, Nat.lt_succ_self _⟩, by exact ⟨by first | omega | (simp; done) | (simp; omega), by assumption, by first | omega | (simp; done) | (simp; omega)⟩, how4, hnew4, st, hF⟩ k33 ?_ fun hout3 => ?_
    · rintro E w35 ⟨s5, u1_8, u2_0, u2_1, u2_2, u2_3, Au1_8, cu1_8, spu1_8, rfl, hLk2, hinv, howu1_8, newu1_8, st, hF⟩
      unfold jq at hLk2; dsimp only at hLk2
      obtain ⟨hi1, hi3, hi2⟩ := hinv
      refine sq fun _ k37 => sq fun _ k38 => rg (Lm rfl (Ly rfl (y_nil rfl rfl) (Ly rfl (yf rfl Ty.fo_57_2) (Ly rfl (yf rfl Ty.fo_55_1) (Ly rfl (yl 2 Ty.pl_45 st rfl) (Ly rfl (yeq rfl) (Ln k38 (cE rfl (fun hc12 => ?_) (fun hc12 => ?_)))))))))
      · refine rg (Lm rfl (Ly rfl (yw 1 Ty.ag_31 st rfl) (La rfl (Scl st hF rfl (r14checkE_ok (keys (pickL (hOf st) [0, 1, 2]) ++ X) _ (st.sub [0, 1, 2] [] [] (by decide)).lo (⟨(rint_m t 6).1, (rtext_m ((rint_m t 6).2) 12).1, (rsigned_m ((rtext_m ((rint_m t 6).2) 12).2)).1, (⟨(⟨((r5readTag_m ((rsigned_m ((rtext_m ((rint_m t 6).2) 12).2)).2)).1).id.origin, ((r5readTag_m ((rsigned_m ((rtext_m ((rint_m t 6).2) 12).2)).2)).1).id.seq⟩ : IdM), ((r5readTag_m ((rsigned_m ((rtext_m ((rint_m t 6).2) 12).2)).2)).1).n⟩ : TagM), (⟨0, 0⟩ : StampM), u1_8⟩ : EffectM) Au1_8 cu1_8 ((st.freeze (i := 3) [0, 1, 2] (by decide) rfl howu1_8 (by decide)).k (i := 0) rfl)) fun w36 st hF => ?_))))
        refine La rfl (a_call rfl rfl rfl rfl (rfail_ok (keys (pickL (hOf st) [0, 1, 3]) ++ X) _ g_t (⟨u2_0, u2_1, (⟨u2_2, u2_3⟩ : FltM)⟩ : RdM) (r14checkE_m (⟨(rint_m t 6).1, (rtext_m ((rint_m t 6).2) 12).1, (rsigned_m ((rtext_m ((rint_m t 6).2) 12).2)).1, (⟨(⟨((r5readTag_m ((rsigned_m ((rtext_m ((rint_m t 6).2) 12).2)).2)).1).id.origin, ((r5readTag_m ((rsigned_m ((rtext_m ((rint_m t 6).2) 12).2)).2)).1).id.seq⟩ : IdM), ((r5readTag_m ((rsigned_m ((rtext_m ((rint_m t 6).2) 12).2)).2)).1).n⟩ : TagM), (⟨0, 0⟩ : StampM), u1_8⟩ : EffectM)) (st.sub [0, 1, 3] [2] [] (by decide))) (fun v w37 ⟨hv, hN11, hfO11, hkc11⟩ => ?_))
        subst hv
        have st := st.callS [0, 1, 3] [2] (by decide) rfl hN11 hfO11 hkc11
        have hF := hF.step hfO11 (kc_s (.inl (by simp [keys])) (kc_n))
        have st : St X w37 [_, _, _, _] [] := st
        have hrk11 : Rok (rfail_m (⟨u2_0, u2_1, (⟨u2_2, u2_3⟩ : FltM)⟩ : RdM) (r14checkE_m (⟨(rint_m t 6).1, (rtext_m ((rint_m t 6).2) 12).1, (rsigned_m ((rtext_m ((rint_m t 6).2) 12).2)).1, (⟨(⟨((r5readTag_m ((rsigned_m ((rtext_m ((rint_m t 6).2) 12).2)).2)).1).id.origin, ((r5readTag_m ((rsigned_m ((rtext_m ((rint_m t 6).2) 12).2)).2)).1).id.seq⟩ : IdM), ((r5readTag_m ((rsigned_m ((rtext_m ((rint_m t 6).2) 12).2)).2)).1).n⟩ : TagM), (⟨0, 0⟩ : StampM), u1_8⟩ : EffectM))) := rfail_rok (by assumption)
        have hrk11b := hrk11.b
        refine Ln k37 (sq fun _ k39 => sq fun _ k40 => rg (Lm rfl (Ly rfl (y_nil rfl rfl) (Ly rfl (yf rfl Ty.fo_57_2) (Ly rfl (yf rfl Ty.fo_55_1) (Ly rfl (yl 3 Ty.pl_45 st rfl) (Ly rfl (yne rfl) (Ln k40 (cN rfl (fun hc13 => ?_) (fun hc13 => ?_))))))))))
        · refine sq fun _ k41 => rg (Ly rfl (y_build (cells := [_, _, _, _, _, _, _, _, _]) rfl rfl Ty.zc_31 Ty.ps_31 rfl) (La rfl (Ssw 0 Ty.sz_31 st hF (.inr hg1) rfl fun w38 (st : St _ _ [_, _, _, _] _) hF => Ln k41 ?_)))
          have st := st.aN 3
          refine Wp_ret (Th_r (Fq_ret (ResN1 rfl (rvc (i := 0) rfl Ty.ag_31 st.hp rfl rfl)) ?_))
          unfold r14read_m; rewrite [if_neg hc1, if_pos hc11, hLk2]; (try dsimp only); rewrite [if_pos hc12, if_neg hc13]
          exact ⟨_, _, rfl, (st.picks [3] (by decide)).pickK [0], hF, kc_s (.inl (by simp [keys])) (kc_n)⟩
        refine sk k39 (sq fun _ k42 => rg (Ly rfl (yw 1 Ty.ag_31 st rfl) (La rfl (Ssw 0 Ty.sz_31 st hF (.inr hg1) rfl fun w39 (st : St _ _ [_, _, _, _] _) hF => Ln k42 ?_))))
        have st : St X w39 [_, _, _] [_] := st.freeze (i := 2) [0, 1, 3] (by decide) rfl howu1_8 (by decide)
        refine Wp_ret (Fq_ret (ResN1 rfl (rvc (i := 0) rfl Ty.ag_31 st.hp rfl rfl)) ?_)
        unfold r14read_m; rewrite [if_neg hc1, if_pos hc11, hLk2]; (try dsimp only); rewrite [if_pos hc12, if_pos hc13]
        exact ⟨_, _, rfl, (st.picks [2] (by decide)).pickK [0], hF, kc_s (.inl (by simp [keys])) (kc_n)⟩
      refine sk k37 (sq fun _ k43 => sq fun _ k44 => rg (Lm rfl (Ly rfl (y_nil rfl rfl) (Ly rfl (yf rfl Ty.fo_57_2) (Ly rfl (yf rfl Ty.fo_55_1) (Ly rfl (yl 2 Ty.pl_45 st rfl) (Ly rfl (yne rfl) (Ln k44 (Wp_cond rfl (fun _ => ?_) (fun hc14 => absurd hc14 (by simp [hc12])))))))))))
      refine sq fun _ k45 => rg (Ly rfl (y_build (cells := [_, _, _, _, _, _, _, _, _]) rfl rfl Ty.zc_31 Ty.ps_31 rfl) (La rfl (Ssw 0 Ty.sz_31 st hF (.inr hg1) rfl fun w40 (st : St _ _ [_, _, _, _] _) hF => Ln k45 ?_)))
      have st := st.aN 3
      refine Wp_ret (Th_r (Fq_ret (ResN1 rfl (rvc (i := 0) rfl Ty.ag_31 st.hp rfl rfl)) ?_))
      unfold r14read_m; rewrite [if_neg hc1, if_pos hc11, hLk2]; (try dsimp only); rewrite [if_neg hc12]
      exact ⟨_, _, rfl, (st.picks [2] (by decide)).pickK [0], hF, kc_s (.inl (by simp [keys])) (kc_n)⟩
    rintro m E w41 ⟨s5, u1_8, u2_0, u2_1, u2_2, u2_3, Au1_8, cu1_8, spu1_8, rfl, ⟨hL2, hmu⟩, hinv, howu1_8, newu1_8, st, hF⟩
    obtain ⟨fuel, rfl⟩ : ∃ q, m = q + 1 := ⟨m - 1, by omega⟩
    obtain ⟨hi1, hi3, hi2⟩ := hinv
    have z1 := Ow.le howu1_8
    refine sq fun _ k46 => sq fun _ k47 => ?_
    refine use_out k47 (fun E W => E = [(0, .pointer (some ⟨g_t, 0, none⟩)), (2, .pointer (some ⟨g1, 0, none⟩)), (3, .pointer (some ⟨g2, 0, none⟩)), (4, .int .i64 ((rint_m ((r5readTag_m ((rsigned_m ((rtext_m ((rint_m t 6).2) 12).2)).2)).2) 4096).1)), (5, .int .i64 s5), (39, .bool (r14read_c2 t s5 u1_8 u2_0 u2_1 u2_2 u2_3))] ∧ St X W (hOf st) (kOf st) ∧ Fr (keys [(some g_t, Cl [sv t.s, .int .i64 t.a, .int .i64 t.f.atF, .int .i64 t.f.e] 57)]) w W) ?_ fun hout4 => ?_
    · rintro E w42 ⟨rfl, st, hF⟩
      have st : St X w42 [_, _, _, _] [] := st
      refine cB rfl (fun hc15 => ?_) (fun hc15 => ?_)
      · have jhc15 := (r14read_c2_iff t s5 u1_8 u2_0 u2_1 u2_2 u2_3).1 hc15
        refine sk k46 (sq fun _ k48 => Wp_block ?_)
        refine Wp_planF (fun W => St X W (pickL (hOf st) [0, 1]) (kOf st)) [(true, 0), (true, 1), (true, 2), (false, 3), (false, 4), (false, 5), (true, 6)] 7 Ty.mx_0 (by kernel_rfl) (by kernel_rfl) (by kernel_rfl) rfl ((st.picks [0, 1] (by decide)).drew) ?_
        have st := st.drew
        have hF := hF.step0 (Fr.drew _)
        refine Py rfl (yf rfl Ty.fo_31_5) (Py rfl (y_load (i := 1) rfl rfl Ty.pl_29 (fun _ h => h.hp) rfl rfl) (Pm rfl (Pl_a rfl (wtd0 rfl) (by rfl) ?_)))
        refine a_call rfl rfl rfl rfl (r5readTag_ok (keys (pickL (hOf st) [0, 1, 3]) ++ X) _ g_t (⟨u2_0, u2_1, (⟨u2_2, u2_3⟩ : FltM)⟩ : RdM) (st.sub [0, 1, 3] [2] [] (by decide)) (by assumption)) (fun v w43 ⟨hv, hN12, hfO12, hkc12⟩ => ?_)
        subst hv
        have st := st.callS [0, 1, 3] [2] (by decide) rfl hN12 hfO12 hkc12
        have hF := hF.step hfO12 (kc_s (.inl (by simp [keys])) (kc_n))
        have st : St X w43 [_, _, _, _] [] := st
        refine ⟨(st.picks [0, 1] (by decide)).takeK 0, ?_⟩
        have hrk12 : Rok ((r5readTag_m (⟨u2_0, u2_1, (⟨u2_2, u2_3⟩ : FltM)⟩ : RdM)).2) := r5readTag_rok (by assumption)
        have hrk12b := hrk12.b
        refine Pl_a rfl (wtd0 rfl) (by rfl) ?_
        refine Sb (enc := tagMC) ((r5readTag_m (⟨u2_0, u2_1, (⟨u2_2, u2_3⟩ : FltM)⟩ : RdM)).1) Ty.es_29 Ty.zc_26 (fun _ => rfl) st hF rfl fun g4 w44 how5 hnew5 (st : St _ _ [_, _, _, _, _] _) hF => ?_
        refine ⟨(st.picks [0, 1] (by decide)).takeK 0, ?_⟩
        refine Pl_a rfl (wtd0 rfl) (by rfl) ?_
        refine Sap (enc := tagMC) u1_8 [(r5readTag_m (⟨u2_0, u2_1, (⟨u2_2, u2_3⟩ : FltM)⟩ : RdM)).1] 2 Ty.es_29 Ty.zc_26 Ty.by_26 (fun _ => rfl) tagMC_1 howu1_8 newu1_8 st hF (own_src (i := 4) st.hp rfl how5) (own_none how5) rfl (by first | omega | (simp; done) | (simp; omega)) (by first | omega | (simp; done) | (simp; omega)) fun Aa2 ca2 sp2 w45 how6 hnew6 (st : St _ _ [_, _, _, _, _] _) hF => ?_
        refine ⟨(st.picks [0, 1] (by decide)).takeK 0, ?_⟩
        refine Py rfl (yf rfl Ty.fo_31_5) (Pl_nil (Fin_a rfl (wtd0 rfl) (Ss1 1 Ty.sz_29 st hF (.inr hg2) rfl fun w46 (st : St _ _ [_, (_, Cl [_, _, _, _, _, _, _, _, _] _), _, _, _] _) hF => id (Ib_n (Th_n (k48 _ _ (rg (Lm rfl (Ly rfl (y_add (c := s5 + 1) rfl rfl rfl (wf_i64 (by first | omega | (simp; done) | (simp; omega)))) ?_)))))))))
        refine Ls' rfl (Ls_nil (Th_n (?_)))
        exact ⟨fuel, [(0, _), (2, _), (3, _), (4, _), (5, _)], Nat.lt_succ_self _, ⟨rfl, rfl, rfl, rfl, rfl, trivial⟩, (s5 + 1), (u1_8 ++ [(r5readTag_m (⟨u2_0, u2_1, (⟨u2_2, u2_3⟩ : FltM)⟩ : RdM)).1]), (((r5readTag_m (⟨u2_0, u2_1, (⟨u2_2, u2_3⟩ : FltM)⟩ : RdM)).2).s), (((r5readTag_m (⟨u2_0, u2_1, (⟨u2_2, u2_3⟩ : FltM)⟩ : RdM)).2).a), (((r5readTag_m (⟨u2_0, u2_1, (⟨u2_2, u2_3⟩ : FltM)⟩ : RdM)).2).f.atF), (((r5readTag_m (⟨u2_0, u2_1, (⟨u2_2, u2_3⟩ : FltM)⟩ : RdM)).2).f.e), Aa2, ca2, sp2, rfl, ⟨by rewrite [← hL2, r14read_L2]; rewrite [if_pos hc15]; rfl, by first | omega | (simp; done) | (simp; omega)⟩, by exact ⟨by first | omega | (simp; done) | (simp; omega), by assumption, by first | omega | (simp; done) | (simp; omega)⟩, how6, hnew6, (st.picks [0, 1, 3, 2] (by decide)).pickK [], hF⟩
      have jhc15 := mt (r14read_c2_iff t s5 u1_8 u2_0 u2_1 u2_2 u2_3).2 hc15
      refine Wp_exit (Th_e (Th_e (Ib_hit (Th_n (?_)))))
      exact hout3 _ [(0, _), (2, _), (3, _), (4, _), (5, _)] _ ⟨rfl, rfl, rfl, rfl, rfl, trivial⟩ ⟨s5, u1_8, u2_0, u2_1, u2_2, u2_3, Au1_8, cu1_8, spu1_8, rfl, show _ = _ from by rewrite [← hL2, r14read_L2]; rewrite [if_neg hc15]; rfl, by exact ⟨by first | omega | (simp; done) | (simp; omega), by assumption, by first | omega | (simp; done) | (simp; omega)⟩, howu1_8, newu1_8, (st.picks [0, 1, 2, 3] (by decide)).pickK [], hF⟩
    refine rg (Lm rfl (Lm rfl (Ly rfl (ylt rfl) (Lm rfl (bD (s := 32) rfl (fun hc16 => ?_) (fun hc16 => ?_))))))
    · refine LyT rfl (y_move rfl rfl) (LyT rfl (y_nil rfl rfl) (LyT rfl (yf rfl Ty.fo_57_2) (LyT rfl (yf rfl Ty.fo_55_1) (LyT rfl (yl 2 Ty.pl_45 st rfl) (LyT rfl (yeq rfl) (Ly rfl (yT rfl) (Ls_nil (Th_n (?_)))))))))
      exact hout4 _ [(0, _), (2, _), (3, _), (4, _), (5, _), (39, _)] _ ⟨rfl, rfl, rfl, rfl, rfl, rfl, trivial⟩ ⟨by unfold r14read_c2; rewrite [if_pos hc16]; rfl, (st.picks [0, 1, 2, 3] (by decide)).pickK [], hF⟩
    refine LsF rfl (LsF rfl (LsF rfl (LsF rfl (LsF rfl (LsF rfl (Ly rfl (yF rfl) (Ls_nil (Th_n (?_)))))))))
    exact hout4 _ [(0, _), (2, _), (3, _), (4, _), (5, _), (39, _)] _ ⟨rfl, rfl, rfl, rfl, rfl, rfl, trivial⟩ ⟨by unfold r14read_c2; rewrite [if_neg hc16]; rfl, (st.picks [0, 1, 2, 3] (by decide)).pickK [], hF⟩
  refine sk k33 (sq fun _ k49 => sq fun _ k50 => rg (Lm rfl (Ly rfl (y_nil rfl rfl) (Ly rfl (yf rfl Ty.fo_57_2) (Ly rfl (yf rfl Ty.fo_55_1) (Ly rfl (yl 2 Ty.pl_45 st rfl) (Ly rfl (yeq rfl) (Ln k50 (cE rfl (fun hc17 => ?_) (fun hc17 => ?_))))))))))
  · refine rg (Lm rfl (Ly rfl (yw 1 Ty.ag_31 st rfl) ?_))
    have st := st.aN 3
    refine La rfl (Scl st hF rfl (r14checkE_ok (keys (hOf st) ++ X) _ st.Lo (⟨(rint_m t 6).1, (rtext_m ((rint_m t 6).2) 12).1, (rsigned_m ((rtext_m ((rint_m t 6).2) 12).2)).1, (⟨(⟨((r5readTag_m ((rsigned_m ((rtext_m ((rint_m t 6).2) 12).2)).2)).1).id.origin, ((r5readTag_m ((rsigned_m ((rtext_m ((rint_m t 6).2) 12).2)).2)).1).id.seq⟩ : IdM), ((r5readTag_m ((rsigned_m ((rtext_m ((rint_m t 6).2) 12).2)).2)).1).n⟩ : TagM), (⟨0, 0⟩ : StampM), ([] : List TagM)⟩ : EffectM) none 0 (st.q 0 rfl)) fun w47 st hF => La rfl (a_call rfl rfl rfl rfl (rfail_ok (keys (pickL (hOf st) [0, 1]) ++ X) _ g_t ((r5readTag_m ((rsigned_m ((rtext_m ((rint_m t 6).2) 12).2)).2)).2) (r14checkE_m (⟨(rint_m t 6).1, (rtext_m ((rint_m t 6).2) 12).1, (rsigned_m ((rtext_m ((rint_m t 6).2) 12).2)).1, (⟨(⟨((r5readTag_m ((rsigned_m ((rtext_m ((rint_m t 6).2) 12).2)).2)).1).id.origin, ((r5readTag_m ((rsigned_m ((rtext_m ((rint_m t 6).2) 12).2)).2)).1).id.seq⟩ : IdM), ((r5readTag_m ((rsigned_m ((rtext_m ((rint_m t 6).2) 12).2)).2)).1).n⟩ : TagM), (⟨0, 0⟩ : StampM), ([] : List TagM)⟩ : EffectM)) (st.sub [0, 1] [2] [] (by decide))) (fun v w48 ⟨hv, hN13, hfO13, hkc13⟩ => ?_)))
    subst hv
    have st := st.callS [0, 1] [2] (by decide) rfl hN13 hfO13 hkc13
    have hF := hF.step hfO13 (kc_s (.inl (by simp [keys])) (kc_n))
    have st : St X w48 [_, _, _] [_] := st
    have hrk13 : Rok (rfail_m ((r5readTag_m ((rsigned_m ((rtext_m ((rint_m t 6).2) 12).2)).2)).2) (r14checkE_m (⟨(rint_m t 6).1, (rtext_m ((rint_m t 6).2) 12).1, (rsigned_m ((rtext_m ((rint_m t 6).2) 12).2)).1, (⟨(⟨((r5readTag_m ((rsigned_m ((rtext_m ((rint_m t 6).2) 12).2)).2)).1).id.origin, ((r5readTag_m ((rsigned_m ((rtext_m ((rint_m t 6).2) 12).2)).2)).1).id.seq⟩ : IdM), ((r5readTag_m ((rsigned_m ((rtext_m ((rint_m t 6).2) 12).2)).2)).1).n⟩ : TagM), (⟨0, 0⟩ : StampM), ([] : List TagM)⟩ : EffectM))) := rfail_rok (by assumption)
    have hrk13b := hrk13.b
    refine Ln k49 (sq fun _ k51 => sq fun _ k52 => rg (Lm rfl (Ly rfl (y_nil rfl rfl) (Ly rfl (yf rfl Ty.fo_57_2) (Ly rfl (yf rfl Ty.fo_55_1) (Ly rfl (yl 2 Ty.pl_45 st rfl) (Ly rfl (yne rfl) (Ln k52 (cN rfl (fun hc18 => ?_) (fun hc18 => ?_))))))))))
    · refine sq fun _ k53 => rg (Ly rfl (y_build (cells := [_, _, _, _, _, _, _, _, _]) rfl rfl Ty.zc_31 Ty.ps_31 rfl) (La rfl (Ssw 0 Ty.sz_31 st hF (.inr hg1) rfl fun w49 (st : St _ _ [_, _, _] _) hF => Ln k53 ?_)))
      have st := st.aN 3
      refine Wp_ret (Th_r (Fq_ret (ResN1 rfl (rvc (i := 0) rfl Ty.ag_31 st.hp rfl rfl)) ?_))
      unfold r14read_m; rewrite [if_neg hc1, if_neg hc11, if_pos hc17, if_neg hc18]
      exact ⟨_, _, rfl, (st.picks [2] (by decide)).pickK [1], hF, kc_s (.inl (by simp [keys])) (kc_n)⟩
    refine sk k51 (sq fun _ k54 => rg (Ly rfl (yw 1 Ty.ag_31 st rfl) (La rfl (Ssw 0 Ty.sz_31 st hF (.inr hg1) rfl fun w50 (st : St _ _ [_, _, _] _) hF => Ln k54 ?_))))
    have st := st.aN 3
    refine Wp_ret (Fq_ret (ResN1 rfl (rvc (i := 0) rfl Ty.ag_31 st.hp rfl rfl)) ?_)
    unfold r14read_m; rewrite [if_neg hc1, if_neg hc11, if_pos hc17, if_pos hc18]
    exact ⟨_, _, rfl, (st.picks [2] (by decide)).pickK [1], hF, kc_s (.inl (by simp [keys])) (kc_n)⟩
  refine sk k49 (sq fun _ k55 => sq fun _ k56 => rg (Lm rfl (Ly rfl (y_nil rfl rfl) (Ly rfl (yf rfl Ty.fo_57_2) (Ly rfl (yf rfl Ty.fo_55_1) (Ly rfl (yl 2 Ty.pl_45 st rfl) (Ly rfl (yne rfl) (Ln k56 (Wp_cond rfl (fun _ => ?_) (fun hc19 => absurd hc19 (by simp [hc17])))))))))))
  refine sq fun _ k57 => rg (Ly rfl (y_build (cells := [_, _, _, _, _, _, _, _, _]) rfl rfl Ty.zc_31 Ty.ps_31 rfl) (La rfl (Ssw 0 Ty.sz_31 st hF (.inr hg1) rfl fun w51 (st : St _ _ [_, _, _] _) hF => Ln k57 ?_)))
  have st := st.aN 3
  refine Wp_ret (Th_r (Fq_ret (ResN1 rfl (rvc (i := 0) rfl Ty.ag_31 st.hp rfl rfl)) ?_))
  unfold r14read_m; rewrite [if_neg hc1, if_neg hc11, if_neg hc17]
  exact ⟨_, _, rfl, (st.picks [2] (by decide)).pickK [0], hF, kc_s (.inl (by simp [keys])) (kc_n)⟩

end Go.Proofs.YtdgllcmlfblelaaGreatDoor

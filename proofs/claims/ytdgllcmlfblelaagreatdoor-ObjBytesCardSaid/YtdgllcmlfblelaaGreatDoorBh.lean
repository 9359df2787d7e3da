/- Walks printed by gen2.py out of our own specifications: what the functions named below do. -/
import Derived.Test.YtdgllcmlfblelaaGreatDoorSc
import Derived.Test.YtdgllcmlfblelaaGreatDoorBg
set_option linter.unusedSimpArgs false
set_option linter.unusedVariables false
namespace Go.Proofs.YtdgllcmlfblelaaGreatDoor
open Go.RowKit

theorem cellX {X : List Nat} {w w' : World} {a : Addr} {v : Value} (h : Fr X w w') (hm : w.cell? a = some v) (hx : a.block ∉ X) : w'.cell? a = some v := by rw [h.cell (cell_blk hm) hx]; exact hm


/-- What an error says: the reader's fault. -/
theorem seen_ok (X : List Nat) (w : World) (g : Nat) (q : Option Nat) (T : RdM) (hok : Ek ⟨g, q⟩ T) (hs : St X w [(some g, Cl (rdC q T) 83), (q, Cl (ftC T) 98)] []) (hg : w.cell? ⟨0, 0, none⟩ = some (.iface 142 (.agg #[.pointer (some ⟨1, 65, none⟩)]))) (hb : 0 ≤ T.f.atF ∧ T.f.atF ≤ 1000000) :
    Fn Tryz.prog 14 [errV 94 q] w fun v w' => v = .agg #[.int .i64 T.f.atF, .int .i64 T.f.e] ∧ Fr [] w w' := by
  cases q with
  | none =>
    have h0 := hok.2.1 rfl
    have h1 := hok.1.2.2.2.1 h0
    rw [h0, h1]
    exact seen_nil w
  | some q => exact seen_err q T w (hs.hp.picks [1] (by decide)) hg hb (fun h => by have := hok.2.2 h; cases this)


theorem eqv_55r (a0 : Int) (a1 : Int) (b0 : Int) (b1 : Int) : eqVals Tryz.prog 8 55 [.int .i64 a0, .int .i64 a1] [.int .i64 b0, .int .i64 b1] = some ((a0 == b0) && ((a1 == b1) && true)) := by kernel_rfl
theorem eqv_55 (x y : FltM) : eqVals Tryz.prog 8 55 (fltMC x) (fltMC y) = some (decide (x = y)) := by
  obtain ⟨a0, a1⟩ := x
  obtain ⟨b0, b1⟩ := y
  refine (eqv_55r a0 a1 b0 b1).trans (congrArg some ?_)
  rw [Bool.eq_iff_iff]
  simp


set_option maxRecDepth 20000 in
set_option maxHeartbeats 4000000 in
theorem objBytes_ok (X : List Nat) (w : World) (hX : Lo X w) (e : EffectM) (A1 : Option Addr) (C1 : Nat) (s : List UInt8) (z2 : Sld X w A1 e.tags.length C1 3 (e.tags.flatMap tagMC)) (hg : w.cell? ⟨0, 0, none⟩ = some (.iface 142 (.agg #[.pointer (some ⟨1, 65, none⟩)]))) (hwf : EffWf e) (hv : -9223372036854775808 ≤ e.val ∧ e.val ≤ 9223372036854775807) :
    Fn Tryz.prog 3 [.agg #[.int .i64 e.act, sv e.name, .int .i64 e.val, .int .i64 e.tag.id.origin, .int .u32 e.tag.id.seq, .int .i64 e.tag.n, .int .u32 e.atF.time, .int .i64 e.atF.origin, .slice A1 e.tags.length C1], sv s] w fun v w' => v = .bool true ∧ Fr [] w w' := by
  refine Fn_of 78 Ty.en_3 Tryz.func3 rfl rfl rfl ?_
  dsimp only [argEnv]
  have st := stn1 hX z2
  have hF := Fr.refl ([]) w
  have z1 := (st.q 0 rfl).le
  refine sq fun _ k1 => rg (La rfl (Sbx st hF rfl fun g1 w1 (st : St _ _ [_] _) hF hg1 => Ls' rfl (Ln k1 (sq fun _ k2 => sq fun _ k3 => rg (Ly rfl (y_build (cells := [_, _, _, _, _, _, _, _, _, _]) rfl rfl Ty.zc_44 Ty.ps_44 rfl) (Ly rfl (yw 0 Ty.ag_31 st rfl) ?_))))))
  have st := st.aN 4
  have st := st.aN 3
  have st := st.aN 7
  have st := st.aN 3
  refine La rfl (Scl st hF rfl (great14_ok (keys (hOf st) ++ X) _ st.Lo (⟨0, (⟨0, (⟨0, 0⟩ : StampM)⟩ : RegM), (⟨0, 0⟩ : NumM), (⟨([] : List AddM), ([] : List TagM)⟩ : SetM), (⟨([] : List PutM), ([] : List TagM)⟩ : MapM)⟩ : ObjM) none 0 none 0 none 0 none 0 e A1 C1 (st.q 1 rfl) (st.q 2 rfl) (st.q 3 rfl) (st.q 4 rfl) (st.q 0 rfl)) fun w2 st hF => Lm rfl (bB (s := 15) rfl (fun hc1 => ?_) (fun hc1 => ?_)))
  · refine LsF rfl (LsF rfl (LsF rfl (Ly rfl (yT rfl) (Ln k3 (Wp_cond_t rfl (sq fun _ k4 => rg (Ls' rfl (Ln k4 (Wp_ret (Th_r (Fq_ret (Res1 rfl rfl) ?_)))))))))))
    exact ⟨rfl, hF⟩
  obtain ⟨kb1, kb2⟩ := great_bnd hc1
  have hol2 := write_len kb1 kb2
  have hol1 : (owrite_m (eff14_m e)).1.length ≤ 10000 := by rw [eff14_eq, write_eq hwf hv]; exact hol2
  refine LyT rfl (y_move rfl rfl) (LyT rfl (y_lens rfl rfl Tryz.underlying9) (LyT rfl (ygt rfl) (Ly rfl (yF rfl) (Ln k3 (cD rfl (fun hc2 => ?_) (fun hc2 => ?_))))))
  · refine sq fun _ k5 => rg (Ls' rfl (Ln k5 (Wp_ret (Th_r (Fq_ret (Res1 rfl rfl) ?_)))))
    exact ⟨rfl, hF⟩
  refine sk k2 (sq fun _ k6 => rg (Ly rfl (yw 0 Ty.ag_31 st rfl) (La rfl (a_call rfl rfl rfl rfl (eff14_ok (keys (hOf st) ++ X) _ st.Lo e A1 C1 (st.q 0 rfl) (by omega)) (fun v w3 ⟨Ar1, cr1, hv, hr1, hf⟩ => ?_)))))
  subst hv
  have st := st.keep0 hf
  have hF := hF.step0 hf
  have z3 := Sld.le hr1
  have st := st.addK (kS Ar1 ((eff14_m e).tags).length cr1 3 (((eff14_m e).tags).flatMap tagMC)) hr1
  have st : St X w3 [_] [_, _, _, _, _, _] := st
  refine La rfl (Scl st hF rfl (owrite_ok (keys (hOf st) ++ X) _ st.Lo (eff14_m e) Ar1 cr1 (st.q 5 rfl) (by rw [eff14_eq]; omega) (by rw [eff14_eq]; omega)) fun w4 st hF => ?_)
  refine Lm rfl (Lx rfl (Lx rfl (Ls' rfl (Ls' rfl (Ln k6 (sq fun _ k7 => rg (Ly rfl (yw 0 Ty.ag_31 st rfl) (La rfl (Scl st hF rfl (r14write_ok (keys (hOf st) ++ X) _ st.Lo e A1 C1 (st.q 0 rfl) (by omega) (by omega) hv.1) fun w5 st hF => ?_)))))))))
  refine Lm rfl (Lx rfl (Lx rfl (Ls' rfl (Ls' rfl (Ln k7 (sq fun _ k8 => sq fun _ k9 => rg (Lm rfl (Lm rfl (Ly rfl (y_nes rfl rfl rfl) (Lm rfl ?_))))))))))
  have hd1 : ((owrite_m (eff14_m e)).1) = ((r14write_m e).1) := by
    rw [eff14_eq, write_eq hwf hv]
  refine Ls_bool 34 rfl (fun hc3 => absurd hc3 (by first | (simp [hd1]; done) | (rw [hd1]; simp; done) | simpa using hd1)) (fun _ => ?_)
  refine LyT rfl (y_move rfl rfl) (LyT rfl (y_move rfl rfl) (LyT rfl (yne rfl) (Ly rfl (yF rfl) (Ln k9 ?_))))
  have hd2 : ((owrite_m (eff14_m e)).2) = ((r14write_m e).2) := by
    rw [eff14_eq, write_eq hwf hv]
  refine Wp_cond rfl (fun hc4 => absurd hc4 (by first | (simp [hd2]; done) | (rw [hd2]; simp; done) | simpa using hd2)) (fun _ => ?_)
  refine sk k8 (sq fun _ k10 => rg (Lm rfl (Lm rfl (Ly rfl (y_cat rfl rfl rfl (by first | omega | (simp; done) | (simp; omega))) ?_))))
  refine La rfl (a_call rfl rfl rfl rfl (sNew_ok (keys (hOf st) ++ X) _ st.Lo (((owrite_m (eff14_m e)).1) ++ s) (by first | omega | (simp; omega))) (fun v w6 ⟨g2, q1, hv, hok1, hN1, hf, hkc1⟩ => ?_))
  subst hv
  have hfo1 : ∀ k ∈ keys [(some g2, Cl (rdC q1 (rnew_m (((owrite_m (eff14_m e)).1) ++ s))) 83), (q1, Cl (ftC (rnew_m (((owrite_m (eff14_m e)).1) ++ s))) 98)], k ∈ ([]) ∨ w.heap.size ≤ k := fun k hk => .inr (Nat.le_trans hF.size (hkc1 k hk))
  have st := st.callN hN1 hf hkc1
  have hF := hF.step0 hf
  have st : St X w6 [_, _, _] [_, _, _, _, _, _] := st
  refine Lm rfl (Lm rfl (Ly rfl (y_cat rfl rfl rfl (by first | omega | (simp; done) | (simp; omega))) ?_))
  refine Ly rfl (y_build (cells := [_, _, _, _]) rfl rfl Ty.zc_57 Ty.ps_57 rfl) (La rfl (Sbx st hF rfl fun g3 w7 (st : St _ _ [_, _, _, _] _) hF hg2 => Ls' rfl (Ls' rfl (Ln k10 (sq fun _ k11 => sq fun _ k12 => rg (Ls' rfl (Ln k12 (Wp_block ?_))))))))
  refine lp (fun q E W => ∃ (s11 : Int) (u3_0 : List UInt8) (u3_1 : Int) (u3_2 : Int) (u3_3 : Int) (Tg2 : RdM) (q_Tg2 : Option Nat), E = [(9, .pointer (some ⟨g2, 0, none⟩)), (10, .pointer (some ⟨g3, 0, none⟩)), (11, .int .i64 s11)] ∧ jq q (fun m => ((2 - s11).toNat < m)) (True) ∧ (0 ≤ s11 ∧ (⟨u3_0, u3_1, (⟨u3_2, u3_3⟩ : FltM)⟩ : RdM) = Tg2 ∧ Rok (⟨u3_0, u3_1, (⟨u3_2, u3_3⟩ : FltM)⟩ : RdM)) ∧ (Ek ⟨g2, q_Tg2⟩ Tg2) ∧ (∀ k ∈ keys [(some g2, Cl (rdC q_Tg2 Tg2) 83), (q_Tg2, Cl (ftC Tg2) 98)], k ∈ ([]) ∨ w.heap.size ≤ k) ∧ St X W [(some g1, Cl [.int .i64 e.act, sv e.name, .int .i64 e.val, .int .i64 e.tag.id.origin, .int .u32 e.tag.id.seq, .int .i64 e.tag.n, .int .u32 e.atF.time, .int .i64 e.atF.origin, .slice A1 e.tags.length C1] 31), (some g2, Cl (rdC q_Tg2 Tg2) 83), (q_Tg2, Cl (ftC Tg2) 98), (some g3, Cl [sv u3_0, .int .i64 u3_1, .int .i64 u3_2, .int .i64 u3_3] 57)] [kS A1 e.tags.length C1 3 (e.tags.flatMap tagMC), kS none ([] : List AddM).length 0 4 (([] : List AddM).flatMap addMC), kS none ([] : List TagM).length 0 3 (([] : List TagM).flatMap tagMC), kS none ([] : List PutM).length 0 7 (([] : List PutM).flatMap putMC), kS none ([] : List TagM).length 0 3 (([] : List TagM).flatMap tagMC), kS Ar1 ((eff14_m e).tags).length cr1 3 (((eff14_m e).tags).flatMap tagMC)] ∧ Fr ([]) w W) ((2 - (0 : Int)).toNat + 1) [(9, _), (10, _), (11, _)] ⟨rfl, rfl, rfl, trivial⟩ ⟨_, _, _, _, _, _, _, rfl, Nat.lt_succ_self _, by exact ⟨by omega, by rw [eff14_eq, write_eq hwf hv]; rfl, ⟨Int.le_refl _, by simp only; omega, by simp only [List.length_append]; omega, fun _ => rfl, Int.le_refl _, show (0 : Int) ≤ 1000000 by decide⟩⟩, hok1, hfo1, st, hF⟩ k11 ?_ fun hout1 => ?_
  · rintro E w8 ⟨s11, u3_0, u3_1, u3_2, u3_3, Tg2, q_Tg2, rfl, _, hinv, hokTg2, hfoTg2, st, hF⟩
    obtain ⟨hi1, hiE, hiR⟩ := hinv
    refine sq fun _ k13 => rg (Ls' rfl (Ln k13 (Wp_ret (Fq_ret (Res1 rfl rfl) ?_))))
    exact ⟨rfl, hF⟩
  rintro m E w9 ⟨s11, u3_0, u3_1, u3_2, u3_3, Tg2, q_Tg2, rfl, hmu, hinv, hokTg2, hfoTg2, st, hF⟩
  unfold jq at hmu; dsimp only at hmu
  obtain ⟨fuel, rfl⟩ : ∃ q, m = q + 1 := ⟨m - 1, by omega⟩
  obtain ⟨hi1, hiE, hiR⟩ := hinv
  refine sq fun _ k14 => sq fun _ k15 => rg (Lm rfl (Ly rfl (ylt rfl) (Ln k15 (cD rfl (fun hc5 => ?_) (fun hc5 => ?_)))))
  · refine sk k14 (sq fun _ k16 => Wp_block (sq fun _ k17 => ?_))
    refine Wp_px (fun W => St X W (pickL (hOf st) [0]) (kOf st)) 26 rfl Ty.mx_0 ((st.picks [0] (by decide)).drew) ?_
    have st := st.drew
    have hF := hF.step0 (Fr.drew _)
    refine Px_y (i := 0) rfl (by kernel_rfl) (wtd0 rfl) rfl rfl (y_move rfl rfl) ?_
    refine Px_y (i := 3) rfl (by kernel_rfl) (wtd0 rfl) rfl rfl (y_move rfl rfl) ?_
    refine Px_a (i := 1) (by kernel_rfl) rfl (wtd0 rfl) ?_
    refine a_call rfl rfl rfl rfl (oread_ok (keys (pickL (hOf st) [0, 3]) ++ X) _ g2 q_Tg2 Tg2 hokTg2 (st.sub [0, 3] [1, 2] [] (by decide))) (fun v w10 ⟨Ar2, cr2, q2, hv, hok2, hN2, hfO1, hkc2⟩ => ?_)
    subst hv
    have hfo2 : ∀ k ∈ keys [(some g2, Cl (rdC q2 ((oread_m Tg2).2)) 83), (q2, Cl (ftC ((oread_m Tg2).2)) 98)], k ∈ ([]) ∨ w.heap.size ≤ k := fun k hk => (hkc2 k (hk)).elim (fun h => (kc_app hfoTg2 (kc_n)) k h) (fun h => .inr (Nat.le_trans hF.size h))
    have st := st.callS [0, 3] [1, 2] (by decide) rfl hN2 hfO1 hkc2
    have hF := hF.step hfO1 (kc_app hfoTg2 (kc_n))
    have st : St X w10 [_, _, _, _] [_, _, _, _, _, _, _] := st
    refine ⟨(st.picks [0] (by decide)).takeK 6, ?_⟩
    have z4 := (st.q 6 rfl).le
    refine Px_a (i := 2) (by kernel_rfl) rfl (wtd0 rfl) ?_
    refine a_call rfl rfl rfl rfl (fromEff_ok (keys (hOf st) ++ X) _ st.Lo ((oread_m Tg2).1) Ar2 cr2 (st.q 6 rfl)) (fun v w11 ⟨Ar3, cr3, hv, hr3, hf⟩ => ?_)
    subst hv
    have st := st.keep0 hf
    have hF := hF.step0 hf
    have z5 := Sld.le hr3
    have st := st.addK (kS Ar3 ((fromEff_m ((oread_m Tg2).1)).tags).length cr3 3 (((fromEff_m ((oread_m Tg2).1)).tags).flatMap tagMC)) hr3
    have st : St X w11 [_, _, _, _] [_, _, _, _, _, _, _, _] := st
    refine ⟨(st.picks [0] (by decide)).takeK 6, ?_⟩
    refine Px_a (i := 4) (by kernel_rfl) rfl (wtd0 rfl) ?_
    refine a_call rfl rfl rfl rfl (r14read_ok (keys (pickL (hOf st) [0, 2, 3]) ++ X) _ g3 (⟨u3_0, u3_1, (⟨u3_2, u3_3⟩ : FltM)⟩ : RdM) (st.sub [0, 2, 3] [1] [] (by decide)) (by assumption)) (fun v w12 ⟨Ar4, cr4, hv, hN3, hfO2, hkc3⟩ => ?_)
    subst hv
    have st := st.callS [0, 2, 3] [1] (by decide) rfl hN3 hfO2 hkc3
    have hF := hF.step hfO2 (kc_s (.inr hg2) (kc_n))
    have st : St X w12 [_, _, _, _] [_, _, _, _, _, _, _, _, _] := st
    refine ⟨(st.picks [0] (by decide)).takeK 6, ?_⟩
    have z6 := (st.q 8 rfl).le
    have hrk1 : Rok ((r14read_m (⟨u3_0, u3_1, (⟨u3_2, u3_3⟩ : FltM)⟩ : RdM)).2) := r14read_rok (by assumption)
    have hrk1b := hrk1.b
    refine Px_str (fun W => St X W (hOf st) (kOf st)) (fun _ st => (st.picks [0] (by decide)).takeK 6) st ?_
    refine Px_pl [(false, 5), (true, 6), (true, 7), (true, 8), (true, 10), (true, 11), (true, 12), (true, 13), (false, 9), (true, 14), (true, 15), (true, 16), (true, 17), (true, 20), (true, 21), (true, 22), (true, 23), (false, 18), (false, 19), (true, 24), (true, 25)] (by kernel_rfl) (by kernel_rfl) rfl ?_
    refine Pl_a rfl (wtd0 rfl) (by rfl) ?_
    refine Scl st hF rfl (sameEffect_ok (keys (hOf st) ++ X) _ st.Lo (fromEff_m ((oread_m Tg2).1)) Ar3 cr3 ((r14read_m (⟨u3_0, u3_1, (⟨u3_2, u3_3⟩ : FltM)⟩ : RdM)).1) Ar4 cr4 (st.q 7 rfl) (st.q 8 rfl)) fun w13 st hF => ?_
    refine ⟨(st.picks [0, 1, 2, 3] (by decide)).takeK 9, ?_⟩
    refine Py rfl (yn rfl) (Pm rfl ?_)
    have hd3 : (sameEffect_m (fromEff_m ((oread_m Tg2).1)) ((r14read_m (⟨u3_0, u3_1, (⟨u3_2, u3_3⟩ : FltM)⟩ : RdM)).1)) = true := by
      rw [← hiE, read_eq hiR, fromEff_eq]; exact sameEffect_refl _
    refine Pl_bool 59 rfl (fun hc6 => absurd hc6 (by first | (simp [hd3]; done) | (rw [hd3]; simp; done) | simpa using hd3)) (fun _ => ?_)
    refine Pl_y rfl (wtdT rfl rfl rfl) rfl rfl (y_move rfl rfl) (Pl_y rfl (wtdT rfl rfl rfl) rfl rfl (y_move rfl rfl) (Pl_y rfl (wtdT rfl rfl rfl) rfl rfl (y_nil rfl rfl) (Pl_y rfl (wtdT rfl rfl rfl) rfl rfl (yf rfl Ty.fo_57_1) (Pl_y rfl (wtdT rfl rfl rfl) rfl rfl (y_load (i := 3) rfl rfl Ty.pl_3 (fun _ h => h.hp) rfl rfl) (Pl_a rfl (wtdT rfl rfl rfl) (by rfl) ?_)))))
    refine a_call rfl rfl rfl rfl (sAt_ok (keys (pickL (hOf st) [0, 3]) ++ X) _ g2 q2 ((oread_m Tg2).2) hok2 (st.sub [0, 3] [1, 2] [] (by decide))) (fun v w14 ⟨hv, hf⟩ => ?_)
    subst hv
    have st := st.keep0 hf
    have hF := hF.step0 hf
    have st : St X w14 [_, _, _, _] [_, _, _, _, _, _, _, _, _] := st
    refine ⟨(st.picks [0, 1, 2, 3] (by decide)).takeK 9, ?_⟩
    refine Pl_y rfl (wtdT rfl rfl rfl) rfl rfl (yne rfl) (Py rfl (yF rfl) (Pm rfl ?_))
    have hd4 : (rat_m ((oread_m Tg2).2)) = (((r14read_m (⟨u3_0, u3_1, (⟨u3_2, u3_3⟩ : FltM)⟩ : RdM)).2).a) := by
      rw [← hiE, read_eq hiR]; rfl
    refine Pl_bool 68 rfl (fun hc7 => absurd hc7 (by first | (simp [hd4]; done) | (rw [hd4]; simp; done) | simpa using hd4)) (fun _ => ?_)
    refine Pl_y rfl (wtdT rfl rfl rfl) rfl rfl (y_move rfl rfl) (Pl_y rfl (wtdT rfl rfl rfl) rfl rfl (y_move rfl rfl) (Pl_y rfl (wtdT rfl rfl rfl) rfl rfl (y_nil rfl rfl) (Pl_y rfl (wtdT rfl rfl rfl) rfl rfl (yf rfl Ty.fo_57_2) (Pl_y rfl (wtdT rfl rfl rfl) rfl rfl (y_loadm (i := 3) rfl rfl Ty.ag_55 (fun _ h => h.hp) rfl rfl rfl) (Pl_a rfl (wtdT rfl rfl rfl) (by rfl) ?_)))))
    refine a_call rfl rfl rfl rfl (sErr_ok (keys (pickL (hOf st) [0, 3]) ++ X) _ g2 q2 ((oread_m Tg2).2) hok2 (st.sub [0, 3] [1, 2] [] (by decide))) (fun v w15 ⟨hv, hf⟩ => ?_)
    subst hv
    have st := st.keep0 hf
    have hF := hF.step0 hf
    have st : St X w15 [_, _, _, _] [_, _, _, _, _, _, _, _, _] := st
    refine ⟨(st.picks [0, 1, 2, 3] (by decide)).takeK 9, ?_⟩
    refine Pl_a rfl (wtdT rfl rfl rfl) (by rfl) ?_
    refine a_call rfl rfl rfl rfl (seen_ok (keys (pickL (hOf st) [0, 3]) ++ X) _ g2 q2 ((oread_m Tg2).2) hok2 (st.sub [0, 3] [1, 2] [] (by decide)) (cellX hF hg (by simp)) (by rw [← hiE, read_eq hiR]; exact (r14read_rok hiR).2.2.2.2)) (fun v w16 ⟨hv, hf⟩ => ?_)
    subst hv
    have st := st.keep0 hf
    have hF := hF.step0 hf
    have st : St X w16 [_, _, _, _] [_, _, _, _, _, _, _, _, _] := st
    refine ⟨(st.picks [0, 1, 2, 3] (by decide)).takeK 9, ?_⟩
    refine Pl_y rfl (wtdT rfl rfl rfl) rfl rfl (y_nev (b := decide (((oread_m Tg2).2).f = ((r14read_m (⟨u3_0, u3_1, (⟨u3_2, u3_3⟩ : FltM)⟩ : RdM)).2).f)) rfl rfl rfl Ty.eg_55 (by rw [Ty.ag_55]; simp) (eqv_55 (((oread_m Tg2).2).f) (((r14read_m (⟨u3_0, u3_1, (⟨u3_2, u3_3⟩ : FltM)⟩ : RdM)).2).f))) ?_
    refine Py rfl (yF rfl) (Pl_nil (Th_n (k17 _ _ ?_)))
    have hd5 : ((oread_m Tg2).2).f = ((r14read_m (⟨u3_0, u3_1, (⟨u3_2, u3_3⟩ : FltM)⟩ : RdM)).2).f := by
      rw [← hiE, read_eq hiR]
    refine Wp_cond rfl (fun hc8 => absurd hc8 (by first | (simp [hd5]; done) | (rw [hd5]; simp; done) | simpa using hd5)) (fun _ => ?_)
    refine Wp_skip (Ib_n (Th_n (k16 _ _ (rg (Lm rfl (Ly rfl (y_add (c := s11 + 1) rfl rfl rfl (wf_i64 (by first | omega | (simp; done) | (simp; omega)))) ?_))))))
    refine Ls' rfl (Ls_nil (Th_n (?_)))
    exact ⟨fuel, [(9, _), (10, _), (11, _)], Nat.lt_succ_self _, ⟨rfl, rfl, rfl, trivial⟩, (s11 + 1), (((r14read_m (⟨u3_0, u3_1, (⟨u3_2, u3_3⟩ : FltM)⟩ : RdM)).2).s), (((r14read_m (⟨u3_0, u3_1, (⟨u3_2, u3_3⟩ : FltM)⟩ : RdM)).2).a), (((r14read_m (⟨u3_0, u3_1, (⟨u3_2, u3_3⟩ : FltM)⟩ : RdM)).2).f.atF), (((r14read_m (⟨u3_0, u3_1, (⟨u3_2, u3_3⟩ : FltM)⟩ : RdM)).2).f.e), ((oread_m Tg2).2), q2, rfl, show _ < _ by first | omega | (simp; done) | (simp; omega), by exact ⟨by omega, by rw [← hiE, read_eq hiR], r14read_rok hiR⟩, hok2, hfo2, (st.picks [0, 1, 2, 3] (by decide)).pickK [0, 1, 2, 3, 4, 5], hF⟩
  refine Wp_exit (Th_e (Th_e (Ib_hit (Th_n (?_)))))
  exact hout1 _ [(9, _), (10, _), (11, _)] _ ⟨rfl, rfl, rfl, trivial⟩ ⟨s11, u3_0, u3_1, u3_2, u3_3, Tg2, q_Tg2, rfl, trivial, by trivial, hokTg2, hfoTg2, (st.picks [0, 1, 2, 3] (by decide)).pickK [0, 1, 2, 3, 4, 5], hF⟩

end Go.Proofs.YtdgllcmlfblelaaGreatDoor

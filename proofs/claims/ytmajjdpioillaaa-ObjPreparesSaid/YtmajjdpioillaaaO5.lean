/- Walks printed by gen2.py out of our own specifications: what the functions named below do. -/
import Derived.Test.YtmajjdpioillaaaO4
set_option linter.unusedSimpArgs false
set_option linter.unusedVariables false
namespace Go.Proofs.Ytmajjdpioillaaa
open Go.RowKit



set_option maxRecDepth 20000 in
set_option maxHeartbeats 4000000 in
theorem objPrepares_ok (X : List Nat) (w : World) (hX : Lo X w) (s : ObjM) (A_s_setF_adds : Option Addr) (c_s_setF_adds : Nat) (A_s_setF_gone : Option Addr) (c_s_setF_gone : Nat) (A_s_map_puts : Option Addr) (c_s_map_puts : Nat) (A_s_map_gone : Option Addr) (c_s_map_gone : Nat) (o : OpM) (tag : TagM) (at_ : StampM) (h_s_setF_adds : Sld X w A_s_setF_adds s.setF.adds.length c_s_setF_adds 4 (s.setF.adds.flatMap addMC)) (h_s_setF_gone : Sld X w A_s_setF_gone s.setF.gone.length c_s_setF_gone 3 (s.setF.gone.flatMap tagMC)) (h_s_map_puts : Sld X w A_s_map_puts s.map.puts.length c_s_map_puts 7 (s.map.puts.flatMap putMC)) (h_s_map_gone : Sld X w A_s_map_gone s.map.gone.length c_s_map_gone 3 (s.map.gone.flatMap tagMC)) (w1 : SetWf s.setF) (w2 : MapWf s.map) (w3 : tagOk tag) (w4 : 0 ≤ at_.time) :
    Fn Try.prog 3 [.agg #[.int .i64 s.kind, .int .i64 s.reg.val, .int .u32 s.reg.atF.time, .int .i64 s.reg.atF.origin, .int .i64 s.num.plus, .int .i64 s.num.minus, .slice A_s_setF_adds s.setF.adds.length c_s_setF_adds, .slice A_s_setF_gone s.setF.gone.length c_s_setF_gone, .slice A_s_map_puts s.map.puts.length c_s_map_puts, .slice A_s_map_gone s.map.gone.length c_s_map_gone], .agg (opMC o).toArray, .agg (tagMC tag).toArray, .agg (stampMC at_).toArray] w fun v w' => v = .bool true ∧ Fr [] w w' := by
  refine Fn_of 76 Ty.en_3 Try.func3 rfl rfl rfl ?_
  dsimp only [argEnv]
  have st : St X w [] [kS A_s_setF_adds s.setF.adds.length c_s_setF_adds 4 (s.setF.adds.flatMap addMC), kS A_s_setF_gone s.setF.gone.length c_s_setF_gone 3 (s.setF.gone.flatMap tagMC), kS A_s_map_puts s.map.puts.length c_s_map_puts 7 (s.map.puts.flatMap putMC), kS A_s_map_gone s.map.gone.length c_s_map_gone 3 (s.map.gone.flatMap tagMC)] := ((((St.nil (X := X) (w := w) hX).addK (kS A_s_setF_adds s.setF.adds.length c_s_setF_adds 4 (s.setF.adds.flatMap addMC)) h_s_setF_adds).addK (kS A_s_setF_gone s.setF.gone.length c_s_setF_gone 3 (s.setF.gone.flatMap tagMC)) h_s_setF_gone).addK (kS A_s_map_puts s.map.puts.length c_s_map_puts 7 (s.map.puts.flatMap putMC)) h_s_map_puts).addK (kS A_s_map_gone s.map.gone.length c_s_map_gone 3 (s.map.gone.flatMap tagMC)) h_s_map_gone
  have hF := Fr.refl ([]) w
  have hleA_s_setF_adds := (st.k (i := 0) rfl).le
  have hleA_s_setF_gone := (st.k (i := 1) rfl).le
  have hleA_s_map_puts := (st.k (i := 2) rfl).le
  have hleA_s_map_gone := (st.k (i := 3) rfl).le
  have hprep : oprepare_m (to14_m s) (op14_m o) tag at_ = r14prepare_m s o tag at_ := by rw [to14_eq]; exact prepare_eq w1 w2 o w3 w4
  obtain ⟨em1, em2, em3, em4⟩ := onew_emp s.kind
  refine Wp_seq fun K1 hK1 => ?_
  refine Wp_region (Ls_a (wtd0 rfl) ?_)
  refine a_box rfl rfl rfl rfl st.hp (fun g1 w1 (hp : Hp w1 [(_, Cl [_, _, _, _, _, _, _, _, _, _] _)]) hf hg1 => ?_)
  have st : St X w1 [(_, Cl [_, _, _, _, _, _, _, _, _, _] _)] [_, _, _, _] := st.push hp hf hg1
  have hg1 := Nat.le_trans hF.size hg1
  have hF := hF.step0 hf
  refine Ls_a (wtd0 rfl) ?_
  refine a_box rfl rfl rfl rfl st.hp (fun g2 w2 (hp : Hp w2 [(_, Cl [_, _, _, _, _, _, _, _, _, _] _), (_, Cl [_, _, _] _)]) hf hg2 => ?_)
  have st : St X w2 [(_, Cl [_, _, _, _, _, _, _, _, _, _] _), (_, Cl [_, _, _] _)] [_, _, _, _] := st.push hp hf hg2
  have hg2 := Nat.le_trans hF.size hg2
  have hF := hF.step0 hf
  refine Ls_a (wtd0 rfl) ?_
  refine a_box rfl rfl rfl rfl st.hp (fun g3 w3 (hp : Hp w3 [(_, Cl [_, _, _, _, _, _, _, _, _, _] _), (_, Cl [_, _, _] _), (_, Cl [_, _, _] _)]) hf hg3 => ?_)
  have st : St X w3 [(_, Cl [_, _, _, _, _, _, _, _, _, _] _), (_, Cl [_, _, _] _), (_, Cl [_, _, _] _)] [_, _, _, _] := st.push hp hf hg3
  have hg3 := Nat.le_trans hF.size hg3
  have hF := hF.step0 hf
  refine Ls_a (wtd0 rfl) ?_
  refine a_box rfl rfl rfl rfl st.hp (fun g4 w4 (hp : Hp w4 [(_, Cl [_, _, _, _, _, _, _, _, _, _] _), (_, Cl [_, _, _] _), (_, Cl [_, _, _] _), (_, Cl [_, _] _)]) hf hg4 => ?_)
  have st : St X w4 [(_, Cl [_, _, _, _, _, _, _, _, _, _] _), (_, Cl [_, _, _] _), (_, Cl [_, _, _] _), (_, Cl [_, _] _)] [_, _, _, _] := st.push hp hf hg4
  have hg4 := Nat.le_trans hF.size hg4
  have hF := hF.step0 hf
  refine Las rfl rfl rfl rfl rfl (Ls_nil (Th_n (hK1 _ _ ?_)))
  refine Wp_seq fun K2 hK2 => ?_
  refine Wp_seq fun K3 hK3 => ?_
  refine Wp_region (Ls_y (wtd0 rfl) rfl rfl (y_loadw (i := 0) rfl rfl Ty.ag_37 (fun _ e => e ▸ st.hp) rfl rfl) ?_)
  refine Ls_y (wtd0 rfl) rfl rfl (y_build (cells := [_, _, _, _, _, _, _, _, _]) rfl rfl Ty.zc_46 Ty.ps_46 rfl) ?_
  have st := st.addK (kS none 0 0 3 []) ⟨Rdx.nil, by simp, Nat.le_refl _, Nat.zero_le _⟩
  have st : St X w4 [(_, Cl [_, _, _, _, _, _, _, _, _, _] _), (_, Cl [_, _, _] _), (_, Cl [_, _, _] _), (_, Cl [_, _] _)] [_, _, _, _, _] := st
  refine Ls_a (wtd0 rfl) ?_
  refine a_call rfl rfl rfl rfl (great14_ok (keys (hOf st) ++ X) _ st.Lo s A_s_setF_adds c_s_setF_adds A_s_setF_gone c_s_setF_gone A_s_map_puts c_s_map_puts A_s_map_gone c_s_map_gone (⟨0, [], 0, (⟨(⟨0, 0⟩ : IdM), 0⟩ : TagM), (⟨0, 0⟩ : StampM), ([] : List TagM)⟩ : EffectM) none 0 (st.k (i := 0) rfl) (st.k (i := 1) rfl) (st.k (i := 2) rfl) (st.k (i := 3) rfl) (st.k (i := 4) rfl)) (fun v w5 ⟨hv, hf⟩ => ?_)
  subst hv
  have st := st.keep0 hf
  have hF := hF.step0 hf
  have st : St X w5 [(_, Cl [_, _, _, _, _, _, _, _, _, _] _), (_, Cl [_, _, _] _), (_, Cl [_, _, _] _), (_, Cl [_, _] _)] [_, _, _, _, _] := st
  refine Lmv rfl rfl rfl rfl rfl (Ls_bool 20 rfl (fun hc1 => ?_) (fun hc1 => ?_))
  · refine Ls_s (wtdF rfl rfl rfl) rfl rfl (Ls_s (wtdF rfl rfl rfl) rfl rfl (Ls_s (wtdF rfl rfl rfl) rfl rfl (Ls_s (wtdF rfl rfl rfl) rfl rfl (Ls_y (wtd0 rfl) rfl rfl (y_pick_t rfl rfl rfl) (Ls_nil (Th_n (hK3 _ _ ?_)))))))
    refine Wp_cond_t rfl (Wp_seq fun K4 hK4 => ?_)
    refine Wp_region (Las rfl rfl rfl rfl rfl (Ls_nil (Th_n (hK4 _ _ ?_))))
    refine Wp_ret (Th_r (Fq_ret (Res1 rfl rfl) ?_))
    exact ⟨rfl, hF⟩
  have hc1 := bF hc1
  obtain ⟨kb1, kb2, kb3, kb4, _⟩ := great14_bnd hc1
  refine Ls_y (wtdT rfl rfl rfl) rfl rfl (y_fld rfl rfl Ty.fo_39_1) (Ls_y (wtdT rfl rfl rfl) rfl rfl (y_load (i := 1) rfl rfl Ty.pl_9 (fun _ e => e ▸ st.hp) rfl rfl) ?_)
  refine Ls_y (wtdT rfl rfl rfl) rfl rfl (y_lens rfl rfl Try.underlying9) ?_
  refine Ls_y (wtdT rfl rfl rfl) rfl rfl (y_gt rfl rfl rfl) (Ls_y (wtd0 rfl) rfl rfl (y_pick_f rfl rfl rfl) (Ls_nil (Th_n (hK3 _ _ ?_))))
  refine Wp_cond rfl (fun hc2 => ?_) (fun hc2 => ?_)
  · have hc2 := dT hc2
    refine Wp_seq fun K5 hK5 => ?_
    refine Wp_region (Las rfl rfl rfl rfl rfl (Ls_nil (Th_n (hK5 _ _ ?_))))
    refine Wp_ret (Th_r (Fq_ret (Res1 rfl rfl) ?_))
    exact ⟨rfl, hF⟩
  have hc2 := dF hc2
  refine Wp_skip (Th_n (hK2 _ _ ?_))
  refine Wp_seq fun K6 hK6 => ?_
  refine Wp_px (fun W => St X W (pickL (hOf st) [0, 1, 2, 3]) (kOf st)) 13 rfl Ty.mx_0 ((st.picks [0, 1, 2, 3] (by decide)).drew) ?_
  have st := st.drew
  have hF := hF.step0 (Fr.drew _)
  refine Px_y (i := 0) rfl (by kernel_rfl) (wtd0 rfl) rfl rfl (y_loadw (i := 0) rfl rfl Ty.ag_37 (fun _ h => h.hp) rfl rfl) ?_
  refine Px_y (i := 2) rfl (by kernel_rfl) (wtd0 rfl) rfl rfl (y_loadw (i := 1) rfl rfl Ty.ag_39 (fun _ h => h.hp) rfl rfl) ?_
  refine Px_y (i := 4) rfl (by kernel_rfl) (wtd0 rfl) rfl rfl (y_loadw (i := 2) rfl rfl Ty.ag_43 (fun _ h => h.hp) rfl rfl) ?_
  refine Px_y (i := 5) rfl (by kernel_rfl) (wtd0 rfl) rfl rfl (y_loadw (i := 3) rfl rfl Ty.ag_24 (fun _ h => h.hp) rfl rfl) ?_
  refine Px_a2 (i := 1) (j := 10) (by kernel_rfl) rfl (wtd0 rfl) rfl (wtd0 rfl) ?_ ?_
  · refine a_call rfl rfl rfl rfl (to14_ok (keys (hOf st) ++ X) _ st.Lo s A_s_setF_adds c_s_setF_adds A_s_setF_gone c_s_setF_gone A_s_map_puts c_s_map_puts A_s_map_gone c_s_map_gone (st.k (i := 0) rfl) (st.k (i := 1) rfl) (st.k (i := 2) rfl) (st.k (i := 3) rfl) (by omega) (by omega) (by omega) (by omega)) (fun v w6 ⟨Ar1, cr1, Ar2, cr2, Ar3, cr3, Ar4, cr4, hv, hr1, hr2, hr3, hr4, hf⟩ => ?_)
    subst hv
    have st := st.keep0 hf
    have hF := hF.step0 hf
    have hlehr1 := Sld.le hr1
    have st := st.addK (kS Ar1 (((to14_m s).setF).adds).length cr1 4 ((((to14_m s).setF).adds).flatMap addMC)) hr1
    have hlehr2 := Sld.le hr2
    have st := st.addK (kS Ar2 (((to14_m s).setF).gone).length cr2 3 ((((to14_m s).setF).gone).flatMap tagMC)) hr2
    have hlehr3 := Sld.le hr3
    have st := st.addK (kS Ar3 (((to14_m s).map).puts).length cr3 7 ((((to14_m s).map).puts).flatMap putMC)) hr3
    have hlehr4 := Sld.le hr4
    have st := st.addK (kS Ar4 (((to14_m s).map).gone).length cr4 3 ((((to14_m s).map).gone).flatMap tagMC)) hr4
    have st : St X w6 [(_, Cl [_, _, _, _, _, _, _, _, _, _] _), (_, Cl [_, _, _] _), (_, Cl [_, _, _] _), (_, Cl [_, _] _)] [_, _, _, _, _, _, _, _, _] := st
    refine ⟨(st.picks [0, 1, 2, 3] (by decide)).takeK 5, ?_⟩
    refine Px_a2 (i := 3) (j := 10) (by kernel_rfl) rfl (wtd0 rfl) rfl (wtd0 rfl) ?_ ?_
    · refine a_call rfl rfl rfl rfl (op14_ok _ o) (fun v w7 ⟨hv, hf⟩ => ?_)
      subst hv
      have st := st.keep0 hf
      have hF := hF.step0 hf
      have st : St X w7 [(_, Cl [_, _, _, _, _, _, _, _, _, _] _), (_, Cl [_, _, _] _), (_, Cl [_, _, _] _), (_, Cl [_, _] _)] [_, _, _, _, _, _, _, _, _] := st
      refine ⟨(st.picks [0, 1, 2, 3] (by decide)).takeK 5, ?_⟩
      refine Px_a2 (i := 6) (j := 10) (by kernel_rfl) rfl (wtd0 rfl) rfl (wtd0 rfl) ?_ ?_
      · refine a_call rfl rfl rfl rfl (oprepare_ok (keys (hOf st) ++ X) _ st.Lo (to14_m s) Ar1 cr1 Ar2 cr2 Ar3 cr3 Ar4 cr4 (op14_m o) tag at_ (st.k (i := 5) rfl) (st.k (i := 6) rfl) (st.k (i := 7) rfl) (st.k (i := 8) rfl) (by rw [to14_eq]; omega) (by rw [to14_eq]; omega) (by rw [to14_eq]; omega) (by rw [to14_eq]; omega)) (fun v w8 ⟨Ar5, cr5, hv, hr5, hf⟩ => ?_)
        subst hv
        have st := st.keep0 hf
        have hF := hF.step0 hf
        have hlehr5 := Sld.le hr5
        have st := st.addK (kS Ar5 (((oprepare_m (to14_m s) (op14_m o) tag at_).1).tags).length cr5 3 ((((oprepare_m (to14_m s) (op14_m o) tag at_).1).tags).flatMap tagMC)) hr5
        have st : St X w8 [(_, Cl [_, _, _, _, _, _, _, _, _, _] _), (_, Cl [_, _, _] _), (_, Cl [_, _, _] _), (_, Cl [_, _] _)] [_, _, _, _, _, _, _, _, _, _] := st
        refine ⟨(st.picks [0, 1, 2, 3] (by decide)).takeK 5, ?_⟩
        refine Px_y (i := 7) rfl (by kernel_rfl) (wtd0 rfl) rfl rfl (y_move rfl rfl) ?_
        refine Px_y (i := 8) rfl (by kernel_rfl) (wtd0 rfl) rfl rfl (y_ext rfl rfl rfl) ?_
        refine Px_y (i := 9) rfl (by kernel_rfl) (wtd0 rfl) rfl rfl (y_ext rfl rfl rfl) ?_
        refine Px_a (i := 10) (by kernel_rfl) rfl (wtd0 rfl) ?_
        refine a_alloc rfl rfl rfl Ty.zc_47 st.hp (fun g5 w9 (hp : Hp w9 [(_, Cl [_, _, _, _, _, _, _, _, _, _] _), (_, Cl [_, _, _] _), (_, Cl [_, _, _] _), (_, Cl [_, _] _), (_, Cl [_, _, _, _, _, _, _, _, _] _)]) hf hg5 => ?_)
        have st : St X w9 [(_, Cl [_, _, _, _, _, _, _, _, _, _] _), (_, Cl [_, _, _] _), (_, Cl [_, _, _] _), (_, Cl [_, _] _), (_, Cl [_, _, _, _, _, _, _, _, _] _)] [_, _, _, _, _, _, _, _, _, _] := st.push hp hf hg5
        have hg5 := Nat.le_trans hF.size hg5
        have hF := hF.step0 hf
        refine ⟨(st.picks [0, 1, 2, 3] (by decide)).takeK 5, ?_⟩
        refine Px_a (i := 11) (by kernel_rfl) rfl (wtd0 rfl) ?_
        refine a_storew (i := 4) rfl rfl rfl rfl Ty.sz_47 rfl (by first | assumption | (simp [Value.oneCell']; done)) st.hp rfl rfl (fun w10 (hp : Hp w10 [(_, Cl [_, _, _, _, _, _, _, _, _, _] _), (_, Cl [_, _, _] _), (_, Cl [_, _, _] _), (_, Cl [_, _] _), (_, Cl [_, _, _, _, _, _, _, _, _] _)]) hf _ => ?_)
        have st : St X w10 [(_, Cl [_, _, _, _, _, _, _, _, _, _] _), (_, Cl [_, _, _] _), (_, Cl [_, _, _] _), (_, Cl [_, _] _), (_, Cl [_, _, _, _, _, _, _, _, _] _)] [_, _, _, _, _, _, _, _, _, _] := st.set (i := 4) rfl hp hf
        have hF := hF.step hf (by intro y hy; simp only [List.mem_cons, List.not_mem_nil, or_false] at hy; subst hy; first | (exact Or.inr (by omega)) | (exact Or.inl (kin0 _ _)) | (exact Or.inl (by simp)))
        refine ⟨(st.picks [0, 1, 2, 3] (by decide)).takeK 5, ?_⟩
        refine Px_y (i := 12) rfl (by kernel_rfl) (wtd0 rfl) rfl rfl (y_assign rfl rfl) ?_
        refine Px_done (by kernel_rfl) (Th_n (hK6 _ _ ?_))
        refine Wp_seq fun K7 hK7 => ?_
        refine Wp_region (Ls_y (wtd0 rfl) rfl rfl (y_loadw (i := 0) rfl rfl Ty.ag_37 (fun _ e => e ▸ st.hp) rfl rfl) ?_)
        refine Ls_y (wtd0 rfl) rfl rfl (y_loadw (i := 1) rfl rfl Ty.ag_39 (fun _ e => e ▸ st.hp) rfl rfl) ?_
        refine Ls_y (wtd0 rfl) rfl rfl (y_loadw (i := 2) rfl rfl Ty.ag_43 (fun _ e => e ▸ st.hp) rfl rfl) ?_
        refine Ls_y (wtd0 rfl) rfl rfl (y_loadw (i := 3) rfl rfl Ty.ag_24 (fun _ e => e ▸ st.hp) rfl rfl) ?_
        refine Ls_a (wtd0 rfl) ?_
        refine a_call rfl rfl rfl rfl (r14prepare_ok (keys (hOf st) ++ X) _ st.Lo s A_s_setF_adds c_s_setF_adds A_s_setF_gone c_s_setF_gone A_s_map_puts c_s_map_puts A_s_map_gone c_s_map_gone o tag at_ (st.k (i := 0) rfl) (st.k (i := 1) rfl) (st.k (i := 2) rfl) (st.k (i := 3) rfl) (by omega) (by omega)) (fun v w11 ⟨Ar6, cr6, hv, hr6, hf⟩ => ?_)
        subst hv
        have st := st.keep0 hf
        have hF := hF.step0 hf
        have hlehr6 := Sld.le hr6
        have st := st.addK (kS Ar6 (((r14prepare_m s o tag at_).1).tags).length cr6 3 ((((r14prepare_m s o tag at_).1).tags).flatMap tagMC)) hr6
        have st : St X w11 [(_, Cl [_, _, _, _, _, _, _, _, _, _] _), (_, Cl [_, _, _] _), (_, Cl [_, _, _] _), (_, Cl [_, _] _), (_, Cl [_, _, _, _, _, _, _, _, _] _)] [_, _, _, _, _, _, _, _, _, _, _] := st
        refine Lmv rfl rfl rfl rfl rfl (Lex rfl rfl rfl rfl rfl rfl (Lex rfl rfl rfl rfl rfl rfl (Ls_a (wtd0 rfl) ?_)))
        refine a_alloc rfl rfl rfl Ty.zc_46 st.hp (fun g6 w12 (hp : Hp w12 [(_, Cl [_, _, _, _, _, _, _, _, _, _] _), (_, Cl [_, _, _] _), (_, Cl [_, _, _] _), (_, Cl [_, _] _), (_, Cl [_, _, _, _, _, _, _, _, _] _), (_, Cl [_, _, _, _, _, _, _, _, _] _)]) hf hg6 => ?_)
        have st : St X w12 [(_, Cl [_, _, _, _, _, _, _, _, _, _] _), (_, Cl [_, _, _] _), (_, Cl [_, _, _] _), (_, Cl [_, _] _), (_, Cl [_, _, _, _, _, _, _, _, _] _), (_, Cl [_, _, _, _, _, _, _, _, _] _)] [_, _, _, _, _, _, _, _, _, _, _] := st.push hp hf hg6
        have hg6 := Nat.le_trans hF.size hg6
        have hF := hF.step0 hf
        refine Ls_a (wtd0 rfl) ?_
        refine a_storew (i := 5) rfl rfl rfl rfl Ty.sz_46 rfl (by first | assumption | (simp [Value.oneCell']; done)) st.hp rfl rfl (fun w13 (hp : Hp w13 [(_, Cl [_, _, _, _, _, _, _, _, _, _] _), (_, Cl [_, _, _] _), (_, Cl [_, _, _] _), (_, Cl [_, _] _), (_, Cl [_, _, _, _, _, _, _, _, _] _), (_, Cl [_, _, _, _, _, _, _, _, _] _)]) hf _ => ?_)
        have st : St X w13 [(_, Cl [_, _, _, _, _, _, _, _, _, _] _), (_, Cl [_, _, _] _), (_, Cl [_, _, _] _), (_, Cl [_, _] _), (_, Cl [_, _, _, _, _, _, _, _, _] _), (_, Cl [_, _, _, _, _, _, _, _, _] _)] [_, _, _, _, _, _, _, _, _, _, _] := st.set (i := 5) rfl hp hf
        have hF := hF.step hf (by intro y hy; simp only [List.mem_cons, List.not_mem_nil, or_false] at hy; subst hy; first | (exact Or.inr (by omega)) | (exact Or.inl (kin0 _ _)) | (exact Or.inl (by simp)))
        refine Las rfl rfl rfl rfl rfl (Ls_nil (Th_n (hK7 _ _ ?_)))
        refine Wp_seq fun K8 hK8 => ?_
        refine Wp_region (Ls_y (wtd0 rfl) rfl rfl (y_fld rfl rfl Ty.fo_37_0) (Ls_y (wtd0 rfl) rfl rfl (y_load (i := 0) rfl rfl Ty.pl_3 (fun _ e => e ▸ st.hp) rfl rfl) ?_))
        refine Ls_a (wtd0 rfl) ?_
        refine a_call rfl rfl rfl rfl (onew_ok (keys (hOf st) ++ X) _ st.Lo s.kind) (fun v w14 ⟨Ar7, cr7, Ar8, cr8, Ar9, cr9, Ar10, cr10, hv, hr7, hr8, hr9, hr10, hf⟩ => ?_)
        subst hv
        have st := st.keep0 hf
        have hF := hF.step0 hf
        have hlehr7 := Sld.le hr7
        have st := st.addK (kS Ar7 ((((onew_m s.kind).1).setF).adds).length cr7 4 (((((onew_m s.kind).1).setF).adds).flatMap addMC)) hr7
        have hlehr8 := Sld.le hr8
        have st := st.addK (kS Ar8 ((((onew_m s.kind).1).setF).gone).length cr8 3 (((((onew_m s.kind).1).setF).gone).flatMap tagMC)) hr8
        have hlehr9 := Sld.le hr9
        have st := st.addK (kS Ar9 ((((onew_m s.kind).1).map).puts).length cr9 7 (((((onew_m s.kind).1).map).puts).flatMap putMC)) hr9
        have hlehr10 := Sld.le hr10
        have st := st.addK (kS Ar10 ((((onew_m s.kind).1).map).gone).length cr10 3 (((((onew_m s.kind).1).map).gone).flatMap tagMC)) hr10
        have st : St X w14 [(_, Cl [_, _, _, _, _, _, _, _, _, _] _), (_, Cl [_, _, _] _), (_, Cl [_, _, _] _), (_, Cl [_, _] _), (_, Cl [_, _, _, _, _, _, _, _, _] _), (_, Cl [_, _, _, _, _, _, _, _, _] _)] [_, _, _, _, _, _, _, _, _, _, _, _, _, _, _] := st
        refine Lmv rfl rfl rfl rfl rfl (Lex rfl rfl rfl rfl rfl rfl (Lex rfl rfl rfl rfl rfl rfl (Ls_a (wtd0 rfl) ?_)))
        refine a_alloc rfl rfl rfl Ty.zc_60 st.hp (fun g7 w15 (hp : Hp w15 [(_, Cl [_, _, _, _, _, _, _, _, _, _] _), (_, Cl [_, _, _] _), (_, Cl [_, _, _] _), (_, Cl [_, _] _), (_, Cl [_, _, _, _, _, _, _, _, _] _), (_, Cl [_, _, _, _, _, _, _, _, _] _), (_, Cl [_, _, _, _, _, _, _, _, _, _] _)]) hf hg7 => ?_)
        have st : St X w15 [(_, Cl [_, _, _, _, _, _, _, _, _, _] _), (_, Cl [_, _, _] _), (_, Cl [_, _, _] _), (_, Cl [_, _] _), (_, Cl [_, _, _, _, _, _, _, _, _] _), (_, Cl [_, _, _, _, _, _, _, _, _] _), (_, Cl [_, _, _, _, _, _, _, _, _, _] _)] [_, _, _, _, _, _, _, _, _, _, _, _, _, _, _] := st.push hp hf hg7
        have hg7 := Nat.le_trans hF.size hg7
        have hF := hF.step0 hf
        refine Ls_a (wtd0 rfl) ?_
        refine a_storew (i := 6) rfl rfl rfl rfl Ty.sz_60 rfl (by first | assumption | (simp [Value.oneCell']; done)) st.hp rfl rfl (fun w16 (hp : Hp w16 [(_, Cl [_, _, _, _, _, _, _, _, _, _] _), (_, Cl [_, _, _] _), (_, Cl [_, _, _] _), (_, Cl [_, _] _), (_, Cl [_, _, _, _, _, _, _, _, _] _), (_, Cl [_, _, _, _, _, _, _, _, _] _), (_, Cl [_, _, _, _, _, _, _, _, _, _] _)]) hf _ => ?_)
        have st : St X w16 [(_, Cl [_, _, _, _, _, _, _, _, _, _] _), (_, Cl [_, _, _] _), (_, Cl [_, _, _] _), (_, Cl [_, _] _), (_, Cl [_, _, _, _, _, _, _, _, _] _), (_, Cl [_, _, _, _, _, _, _, _, _] _), (_, Cl [_, _, _, _, _, _, _, _, _, _] _)] [_, _, _, _, _, _, _, _, _, _, _, _, _, _, _] := st.set (i := 6) rfl hp hf
        have hF := hF.step hf (by intro y hy; simp only [List.mem_cons, List.not_mem_nil, or_false] at hy; subst hy; first | (exact Or.inr (by omega)) | (exact Or.inl (kin0 _ _)) | (exact Or.inl (by simp)))
        refine Las rfl rfl rfl rfl rfl (Ls_nil (Th_n (hK8 _ _ ?_)))
        refine Wp_seq fun K9 hK9 => ?_
        refine Wp_region (Ls_y (wtd0 rfl) rfl rfl (y_fld rfl rfl Ty.fo_37_0) (Ls_y (wtd0 rfl) rfl rfl (y_load (i := 0) rfl rfl Ty.pl_3 (fun _ e => e ▸ st.hp) rfl rfl) ?_))
        refine Ls_a (wtd0 rfl) ?_
        refine a_call rfl rfl rfl rfl (r14new_ok (keys (hOf st) ++ X) _ st.Lo s.kind) (fun v w17 ⟨Ar11, cr11, Ar12, cr12, Ar13, cr13, Ar14, cr14, hv, hr11, hr12, hr13, hr14, hf⟩ => ?_)
        subst hv
        have st := st.keep0 hf
        have hF := hF.step0 hf
        have hlehr11 := Sld.le hr11
        have st := st.addK (kS Ar11 ((((r14new_m s.kind).1).setF).adds).length cr11 4 (((((r14new_m s.kind).1).setF).adds).flatMap addMC)) hr11
        have hlehr12 := Sld.le hr12
        have st := st.addK (kS Ar12 ((((r14new_m s.kind).1).setF).gone).length cr12 3 (((((r14new_m s.kind).1).setF).gone).flatMap tagMC)) hr12
        have hlehr13 := Sld.le hr13
        have st := st.addK (kS Ar13 ((((r14new_m s.kind).1).map).puts).length cr13 7 (((((r14new_m s.kind).1).map).puts).flatMap putMC)) hr13
        have hlehr14 := Sld.le hr14
        have st := st.addK (kS Ar14 ((((r14new_m s.kind).1).map).gone).length cr14 3 (((((r14new_m s.kind).1).map).gone).flatMap tagMC)) hr14
        have st : St X w17 [(_, Cl [_, _, _, _, _, _, _, _, _, _] _), (_, Cl [_, _, _] _), (_, Cl [_, _, _] _), (_, Cl [_, _] _), (_, Cl [_, _, _, _, _, _, _, _, _] _), (_, Cl [_, _, _, _, _, _, _, _, _] _), (_, Cl [_, _, _, _, _, _, _, _, _, _] _)] [_, _, _, _, _, _, _, _, _, _, _, _, _, _, _, _, _, _, _] := st
        refine Lmv rfl rfl rfl rfl rfl (Lex rfl rfl rfl rfl rfl rfl (Lex rfl rfl rfl rfl rfl rfl (Ls_a (wtd0 rfl) ?_)))
        refine a_alloc rfl rfl rfl Ty.zc_37 st.hp (fun g8 w18 (hp : Hp w18 [(_, Cl [_, _, _, _, _, _, _, _, _, _] _), (_, Cl [_, _, _] _), (_, Cl [_, _, _] _), (_, Cl [_, _] _), (_, Cl [_, _, _, _, _, _, _, _, _] _), (_, Cl [_, _, _, _, _, _, _, _, _] _), (_, Cl [_, _, _, _, _, _, _, _, _, _] _), (_, Cl [_, _, _, _, _, _, _, _, _, _] _)]) hf hg8 => ?_)
        have st : St X w18 [(_, Cl [_, _, _, _, _, _, _, _, _, _] _), (_, Cl [_, _, _] _), (_, Cl [_, _, _] _), (_, Cl [_, _] _), (_, Cl [_, _, _, _, _, _, _, _, _] _), (_, Cl [_, _, _, _, _, _, _, _, _] _), (_, Cl [_, _, _, _, _, _, _, _, _, _] _), (_, Cl [_, _, _, _, _, _, _, _, _, _] _)] [_, _, _, _, _, _, _, _, _, _, _, _, _, _, _, _, _, _, _] := st.push hp hf hg8
        have hg8 := Nat.le_trans hF.size hg8
        have hF := hF.step0 hf
        refine Ls_a (wtd0 rfl) ?_
        refine a_storew (i := 7) rfl rfl rfl rfl Ty.sz_37 rfl (by first | assumption | (simp [Value.oneCell']; done)) st.hp rfl rfl (fun w19 (hp : Hp w19 [(_, Cl [_, _, _, _, _, _, _, _, _, _] _), (_, Cl [_, _, _] _), (_, Cl [_, _, _] _), (_, Cl [_, _] _), (_, Cl [_, _, _, _, _, _, _, _, _] _), (_, Cl [_, _, _, _, _, _, _, _, _] _), (_, Cl [_, _, _, _, _, _, _, _, _, _] _), (_, Cl [_, _, _, _, _, _, _, _, _, _] _)]) hf _ => ?_)
        have st : St X w19 [(_, Cl [_, _, _, _, _, _, _, _, _, _] _), (_, Cl [_, _, _] _), (_, Cl [_, _, _] _), (_, Cl [_, _] _), (_, Cl [_, _, _, _, _, _, _, _, _] _), (_, Cl [_, _, _, _, _, _, _, _, _] _), (_, Cl [_, _, _, _, _, _, _, _, _, _] _), (_, Cl [_, _, _, _, _, _, _, _, _, _] _)] [_, _, _, _, _, _, _, _, _, _, _, _, _, _, _, _, _, _, _] := st.set (i := 7) rfl hp hf
        have hF := hF.step hf (by intro y hy; simp only [List.mem_cons, List.not_mem_nil, or_false] at hy; subst hy; first | (exact Or.inr (by omega)) | (exact Or.inl (kin0 _ _)) | (exact Or.inl (by simp)))
        refine Las rfl rfl rfl rfl rfl (Ls_nil (Th_n (hK9 _ _ ?_)))
        refine Wp_seq fun K10 hK10 => ?_
        refine Wp_plan (fun W => St X W (pickL (hOf st) [0, 1, 2, 3, 4, 5, 6, 7]) (kOf st)) [(true, 0), (true, 2), (false, 1), (false, 3), (true, 4), (true, 5), (true, 6), (true, 7), (true, 8), (true, 9), (true, 10), (true, 12), (false, 11), (false, 13), (true, 14), (true, 15), (true, 16), (true, 17), (true, 18), (true, 19), (true, 20)] Ty.mx_0 (by kernel_rfl) (by kernel_rfl) rfl ((st.picks [0, 1, 2, 3, 4, 5, 6, 7] (by decide)).drew) ?_
        have st := st.drew
        have hF := hF.step0 (Fr.drew _)
        refine Pl_y rfl (wtd0 rfl) rfl rfl (y_loadw (i := 4) rfl rfl Ty.ag_47 (fun _ h => h.hp) rfl rfl) ?_
        refine Pl_y rfl (wtd0 rfl) rfl rfl (y_loadw (i := 5) rfl rfl Ty.ag_46 (fun _ h => h.hp) rfl rfl) ?_
        refine Pl_a rfl (wtd0 rfl) (by rfl) ?_
        refine a_call rfl rfl rfl rfl (fromEff_ok (keys (hOf st) ++ X) _ st.Lo ((oprepare_m (to14_m s) (op14_m o) tag at_).1) Ar5 cr5 (st.k (i := 9) rfl)) (fun v w20 ⟨Ar15, cr15, hv, hr15, hf⟩ => ?_)
        subst hv
        have st := st.keep0 hf
        have hF := hF.step0 hf
        have hlehr15 := Sld.le hr15
        have st := st.addK (kS Ar15 ((fromEff_m ((oprepare_m (to14_m s) (op14_m o) tag at_).1)).tags).length cr15 3 (((fromEff_m ((oprepare_m (to14_m s) (op14_m o) tag at_).1)).tags).flatMap tagMC)) hr15
        have st : St X w20 [(_, Cl [_, _, _, _, _, _, _, _, _, _] _), (_, Cl [_, _, _] _), (_, Cl [_, _, _] _), (_, Cl [_, _] _), (_, Cl [_, _, _, _, _, _, _, _, _] _), (_, Cl [_, _, _, _, _, _, _, _, _] _), (_, Cl [_, _, _, _, _, _, _, _, _, _] _), (_, Cl [_, _, _, _, _, _, _, _, _, _] _)] [_, _, _, _, _, _, _, _, _, _, _, _, _, _, _, _, _, _, _, _] := st
        refine ⟨(st.picks [0, 1, 2, 3, 4, 5, 6, 7] (by decide)).takeK 19, ?_⟩
        refine Pl_a rfl (wtd0 rfl) (by rfl) ?_
        refine a_call rfl rfl rfl rfl (sameEffect_ok (keys (hOf st) ++ X) _ st.Lo (fromEff_m ((oprepare_m (to14_m s) (op14_m o) tag at_).1)) Ar15 cr15 ((r14prepare_m s o tag at_).1) Ar6 cr6 (st.k (i := 19) rfl) (st.k (i := 10) rfl)) (fun v w21 ⟨hv, hf⟩ => ?_)
        subst hv
        have st := st.keep0 hf
        have hF := hF.step0 hf
        have st : St X w21 [(_, Cl [_, _, _, _, _, _, _, _, _, _] _), (_, Cl [_, _, _] _), (_, Cl [_, _, _] _), (_, Cl [_, _] _), (_, Cl [_, _, _, _, _, _, _, _, _] _), (_, Cl [_, _, _, _, _, _, _, _, _] _), (_, Cl [_, _, _, _, _, _, _, _, _, _] _), (_, Cl [_, _, _, _, _, _, _, _, _, _] _)] [_, _, _, _, _, _, _, _, _, _, _, _, _, _, _, _, _, _, _, _] := st
        refine ⟨(st.picks [0, 1, 2, 3, 4, 5, 6, 7] (by decide)).takeK 19, ?_⟩
        refine Pmv rfl rfl rfl rfl rfl rfl ?_
        have hd1 : (sameEffect_m (fromEff_m ((oprepare_m (to14_m s) (op14_m o) tag at_).1)) ((r14prepare_m s o tag at_).1)) = true := by
          rw [hprep]; exact sameEffect_refl _
        refine Pl_bool 60 rfl (fun _ => ?_) (fun hc3 => absurd hc3 (by first | (simp [hd1]; done) | (rw [hd1]; simp; done) | simpa using hd1))
        refine Pl_y rfl (wtdT rfl rfl rfl) rfl rfl (y_move rfl rfl) (Pl_y rfl (wtdT rfl rfl rfl) rfl rfl (y_move rfl rfl) (Pl_y rfl (wtdT rfl rfl rfl) rfl rfl (y_eq rfl rfl rfl) (Pl_y rfl (wtd0 rfl) rfl rfl (y_pick_t rfl rfl rfl) (Pmv rfl rfl rfl rfl rfl rfl ?_))))
        have hd2 : ((oprepare_m (to14_m s) (op14_m o) tag at_).2) = ((r14prepare_m s o tag at_).2) := by
          rw [hprep]
        refine Pl_bool 65 rfl (fun _ => ?_) (fun hc4 => absurd hc4 (by first | (simp [hd2]; done) | (rw [hd2]; simp; done) | simpa using hd2))
        refine Pl_y rfl (wtdT rfl rfl rfl) rfl rfl (y_loadw (i := 6) rfl rfl Ty.ag_60 (fun _ h => h.hp) rfl rfl) ?_
        refine Pl_y rfl (wtdT rfl rfl rfl) rfl rfl (y_loadw (i := 7) rfl rfl Ty.ag_37 (fun _ h => h.hp) rfl rfl) ?_
        refine Pl_a rfl (wtdT rfl rfl rfl) (by rfl) ?_
        refine a_call rfl rfl rfl rfl (from14_ok (keys (hOf st) ++ X) _ st.Lo ((onew_m s.kind).1) Ar7 cr7 Ar8 cr8 Ar9 cr9 Ar10 cr10 (st.k (i := 11) rfl) (st.k (i := 12) rfl) (st.k (i := 13) rfl) (st.k (i := 14) rfl) (by simp [em1]) (by simp [em2]) (by simp [em3]) (by simp [em4])) (fun v w22 ⟨Ar16, cr16, Ar17, cr17, Ar18, cr18, Ar19, cr19, hv, hr16, hr17, hr18, hr19, hf⟩ => ?_)
        subst hv
        have st := st.keep0 hf
        have hF := hF.step0 hf
        have hlehr16 := Sld.le hr16
        have st := st.addK (kS Ar16 (((from14_m ((onew_m s.kind).1)).setF).adds).length cr16 4 ((((from14_m ((onew_m s.kind).1)).setF).adds).flatMap addMC)) hr16
        have hlehr17 := Sld.le hr17
        have st := st.addK (kS Ar17 (((from14_m ((onew_m s.kind).1)).setF).gone).length cr17 3 ((((from14_m ((onew_m s.kind).1)).setF).gone).flatMap tagMC)) hr17
        have hlehr18 := Sld.le hr18
        have st := st.addK (kS Ar18 (((from14_m ((onew_m s.kind).1)).map).puts).length cr18 7 ((((from14_m ((onew_m s.kind).1)).map).puts).flatMap putMC)) hr18
        have hlehr19 := Sld.le hr19
        have st := st.addK (kS Ar19 (((from14_m ((onew_m s.kind).1)).map).gone).length cr19 3 ((((from14_m ((onew_m s.kind).1)).map).gone).flatMap tagMC)) hr19
        have st : St X w22 [(_, Cl [_, _, _, _, _, _, _, _, _, _] _), (_, Cl [_, _, _] _), (_, Cl [_, _, _] _), (_, Cl [_, _] _), (_, Cl [_, _, _, _, _, _, _, _, _] _), (_, Cl [_, _, _, _, _, _, _, _, _] _), (_, Cl [_, _, _, _, _, _, _, _, _, _] _), (_, Cl [_, _, _, _, _, _, _, _, _, _] _)] [_, _, _, _, _, _, _, _, _, _, _, _, _, _, _, _, _, _, _, _, _, _, _, _] := st
        refine ⟨(st.picks [0, 1, 2, 3, 4, 5, 6, 7] (by decide)).takeK 19, ?_⟩
        refine Pl_a rfl (wtdT rfl rfl rfl) (by rfl) ?_
        refine a_call rfl rfl rfl rfl (r14same_ok (keys (hOf st) ++ X) _ st.Lo (from14_m ((onew_m s.kind).1)) Ar16 cr16 Ar17 cr17 Ar18 cr18 Ar19 cr19 ((r14new_m s.kind).1) Ar11 cr11 Ar12 cr12 Ar13 cr13 Ar14 cr14 (st.k (i := 20) rfl) (st.k (i := 21) rfl) (st.k (i := 22) rfl) (st.k (i := 23) rfl) (st.k (i := 15) rfl) (st.k (i := 16) rfl) (st.k (i := 17) rfl) (st.k (i := 18) rfl)) (fun v w23 ⟨hv, hf⟩ => ?_)
        subst hv
        have st := st.keep0 hf
        have hF := hF.step0 hf
        have st : St X w23 [(_, Cl [_, _, _, _, _, _, _, _, _, _] _), (_, Cl [_, _, _] _), (_, Cl [_, _, _] _), (_, Cl [_, _] _), (_, Cl [_, _, _, _, _, _, _, _, _] _), (_, Cl [_, _, _, _, _, _, _, _, _] _), (_, Cl [_, _, _, _, _, _, _, _, _, _] _), (_, Cl [_, _, _, _, _, _, _, _, _, _] _)] [_, _, _, _, _, _, _, _, _, _, _, _, _, _, _, _, _, _, _, _, _, _, _, _] := st
        refine ⟨(st.picks [0, 1, 2, 3, 4, 5, 6, 7] (by decide)).takeK 19, ?_⟩
        refine Pl_y rfl (wtd0 rfl) rfl rfl (y_pick_t rfl rfl rfl) (Pmv rfl rfl rfl rfl rfl rfl ?_)
        have hd3 : (r14same_m (from14_m ((onew_m s.kind).1)) ((r14new_m s.kind).1)) = true := by
          rw [from14_eq]; exact r14same_refl _
        refine Pl_bool 71 rfl (fun _ => ?_) (fun hc5 => absurd hc5 (by first | (simp [hd3]; done) | (rw [hd3]; simp; done) | simpa using hd3))
        refine Pl_y rfl (wtdT rfl rfl rfl) rfl rfl (y_move rfl rfl) (Pl_y rfl (wtdT rfl rfl rfl) rfl rfl (y_move rfl rfl) (Pl_y rfl (wtdT rfl rfl rfl) rfl rfl (y_eq rfl rfl rfl) (Pl_y rfl (wtd0 rfl) rfl rfl (y_pick_t rfl rfl rfl) (Pl_y rfl (wtd0 rfl) rfl rfl (y_assign rfl rfl) (Pl_nil (Th_n (hK10 _ _ ?_)))))))
        refine Wp_ret (Fq_ret (Res1 rfl rfl) ?_)
        have hres : (((onew_m s.kind).2) == ((r14new_m s.kind).2)) = true := by
          exact beq_iff_eq.2 rfl
        rw [hres]
        exact ⟨rfl, hF⟩
      refine a_alloc rfl rfl rfl Ty.zc_47 st.hp (fun g9 w24 (hp : Hp w24 [(_, Cl [_, _, _, _, _, _, _, _, _, _] _), (_, Cl [_, _, _] _), (_, Cl [_, _, _] _), (_, Cl [_, _] _), (_, Cl [_, _, _, _, _, _, _, _, _] _)]) hf hg9 => ?_)
      have st : St X w24 [(_, Cl [_, _, _, _, _, _, _, _, _, _] _), (_, Cl [_, _, _] _), (_, Cl [_, _, _] _), (_, Cl [_, _] _), (_, Cl [_, _, _, _, _, _, _, _, _] _)] [_, _, _, _, _, _, _, _, _] := st.push hp hf hg9
      have hg9 := Nat.le_trans hF.size hg9
      have hF := hF.step0 hf
      refine ⟨(st.picks [0, 1, 2, 3] (by decide)).takeK 5, ?_⟩
      refine Px_a (i := 6) (by kernel_rfl) rfl (wtd0 rfl) ?_
      refine a_call rfl rfl rfl rfl (oprepare_ok (keys (hOf st) ++ X) _ st.Lo (to14_m s) Ar1 cr1 Ar2 cr2 Ar3 cr3 Ar4 cr4 (op14_m o) tag at_ (st.k (i := 5) rfl) (st.k (i := 6) rfl) (st.k (i := 7) rfl) (st.k (i := 8) rfl) (by rw [to14_eq]; omega) (by rw [to14_eq]; omega) (by rw [to14_eq]; omega) (by rw [to14_eq]; omega)) (fun v w25 ⟨Ar20, cr20, hv, hr20, hf⟩ => ?_)
      subst hv
      have st := st.keep0 hf
      have hF := hF.step0 hf
      have hlehr20 := Sld.le hr20
      have st := st.addK (kS Ar20 (((oprepare_m (to14_m s) (op14_m o) tag at_).1).tags).length cr20 3 ((((oprepare_m (to14_m s) (op14_m o) tag at_).1).tags).flatMap tagMC)) hr20
      have st : St X w25 [(_, Cl [_, _, _, _, _, _, _, _, _, _] _), (_, Cl [_, _, _] _), (_, Cl [_, _, _] _), (_, Cl [_, _] _), (_, Cl [_, _, _, _, _, _, _, _, _] _)] [_, _, _, _, _, _, _, _, _, _] := st
      refine ⟨(st.picks [0, 1, 2, 3] (by decide)).takeK 5, ?_⟩
      refine Px_y (i := 7) rfl (by kernel_rfl) (wtd0 rfl) rfl rfl (y_move rfl rfl) ?_
      refine Px_y (i := 8) rfl (by kernel_rfl) (wtd0 rfl) rfl rfl (y_ext rfl rfl rfl) ?_
      refine Px_y (i := 9) rfl (by kernel_rfl) (wtd0 rfl) rfl rfl (y_ext rfl rfl rfl) ?_
      refine Px_a (i := 11) (by kernel_rfl) rfl (wtd0 rfl) ?_
      refine a_storew (i := 4) rfl rfl rfl rfl Ty.sz_47 rfl (by first | assumption | (simp [Value.oneCell']; done)) st.hp rfl rfl (fun w26 (hp : Hp w26 [(_, Cl [_, _, _, _, _, _, _, _, _, _] _), (_, Cl [_, _, _] _), (_, Cl [_, _, _] _), (_, Cl [_, _] _), (_, Cl [_, _, _, _, _, _, _, _, _] _)]) hf _ => ?_)
      have st : St X w26 [(_, Cl [_, _, _, _, _, _, _, _, _, _] _), (_, Cl [_, _, _] _), (_, Cl [_, _, _] _), (_, Cl [_, _] _), (_, Cl [_, _, _, _, _, _, _, _, _] _)] [_, _, _, _, _, _, _, _, _, _] := st.set (i := 4) rfl hp hf
      have hF := hF.step hf (by intro y hy; simp only [List.mem_cons, List.not_mem_nil, or_false] at hy; subst hy; first | (exact Or.inr (by omega)) | (exact Or.inl (kin0 _ _)) | (exact Or.inl (by simp)))
      refine ⟨(st.picks [0, 1, 2, 3] (by decide)).takeK 5, ?_⟩
      refine Px_y (i := 12) rfl (by kernel_rfl) (wtd0 rfl) rfl rfl (y_assign rfl rfl) ?_
      refine Px_done (by kernel_rfl) (Th_n (hK6 _ _ ?_))
      refine Wp_seq fun K11 hK11 => ?_
      refine Wp_region (Ls_y (wtd0 rfl) rfl rfl (y_loadw (i := 0) rfl rfl Ty.ag_37 (fun _ e => e ▸ st.hp) rfl rfl) ?_)
      refine Ls_y (wtd0 rfl) rfl rfl (y_loadw (i := 1) rfl rfl Ty.ag_39 (fun _ e => e ▸ st.hp) rfl rfl) ?_
      refine Ls_y (wtd0 rfl) rfl rfl (y_loadw (i := 2) rfl rfl Ty.ag_43 (fun _ e => e ▸ st.hp) rfl rfl) ?_
      refine Ls_y (wtd0 rfl) rfl rfl (y_loadw (i := 3) rfl rfl Ty.ag_24 (fun _ e => e ▸ st.hp) rfl rfl) ?_
      refine Ls_a (wtd0 rfl) ?_
      refine a_call rfl rfl rfl rfl (r14prepare_ok (keys (hOf st) ++ X) _ st.Lo s A_s_setF_adds c_s_setF_adds A_s_setF_gone c_s_setF_gone A_s_map_puts c_s_map_puts A_s_map_gone c_s_map_gone o tag at_ (st.k (i := 0) rfl) (st.k (i := 1) rfl) (st.k (i := 2) rfl) (st.k (i := 3) rfl) (by omega) (by omega)) (fun v w27 ⟨Ar21, cr21, hv, hr21, hf⟩ => ?_)
      subst hv
      have st := st.keep0 hf
      have hF := hF.step0 hf
      have hlehr21 := Sld.le hr21
      have st := st.addK (kS Ar21 (((r14prepare_m s o tag at_).1).tags).length cr21 3 ((((r14prepare_m s o tag at_).1).tags).flatMap tagMC)) hr21
      have st : St X w27 [(_, Cl [_, _, _, _, _, _, _, _, _, _] _), (_, Cl [_, _, _] _), (_, Cl [_, _, _] _), (_, Cl [_, _] _), (_, Cl [_, _, _, _, _, _, _, _, _] _)] [_, _, _, _, _, _, _, _, _, _, _] := st
      refine Lmv rfl rfl rfl rfl rfl (Lex rfl rfl rfl rfl rfl rfl (Lex rfl rfl rfl rfl rfl rfl (Ls_a (wtd0 rfl) ?_)))
      refine a_alloc rfl rfl rfl Ty.zc_46 st.hp (fun g10 w28 (hp : Hp w28 [(_, Cl [_, _, _, _, _, _, _, _, _, _] _), (_, Cl [_, _, _] _), (_, Cl [_, _, _] _), (_, Cl [_, _] _), (_, Cl [_, _, _, _, _, _, _, _, _] _), (_, Cl [_, _, _, _, _, _, _, _, _] _)]) hf hg10 => ?_)
      have st : St X w28 [(_, Cl [_, _, _, _, _, _, _, _, _, _] _), (_, Cl [_, _, _] _), (_, Cl [_, _, _] _), (_, Cl [_, _] _), (_, Cl [_, _, _, _, _, _, _, _, _] _), (_, Cl [_, _, _, _, _, _, _, _, _] _)] [_, _, _, _, _, _, _, _, _, _, _] := st.push hp hf hg10
      have hg10 := Nat.le_trans hF.size hg10
      have hF := hF.step0 hf
      refine Ls_a (wtd0 rfl) ?_
      refine a_storew (i := 5) rfl rfl rfl rfl Ty.sz_46 rfl (by first | assumption | (simp [Value.oneCell']; done)) st.hp rfl rfl (fun w29 (hp : Hp w29 [(_, Cl [_, _, _, _, _, _, _, _, _, _] _), (_, Cl [_, _, _] _), (_, Cl [_, _, _] _), (_, Cl [_, _] _), (_, Cl [_, _, _, _, _, _, _, _, _] _), (_, Cl [_, _, _, _, _, _, _, _, _] _)]) hf _ => ?_)
      have st : St X w29 [(_, Cl [_, _, _, _, _, _, _, _, _, _] _), (_, Cl [_, _, _] _), (_, Cl [_, _, _] _), (_, Cl [_, _] _), (_, Cl [_, _, _, _, _, _, _, _, _] _), (_, Cl [_, _, _, _, _, _, _, _, _] _)] [_, _, _, _, _, _, _, _, _, _, _] := st.set (i := 5) rfl hp hf
      have hF := hF.step hf (by intro y hy; simp only [List.mem_cons, List.not_mem_nil, or_false] at hy; subst hy; first | (exact Or.inr (by omega)) | (exact Or.inl (kin0 _ _)) | (exact Or.inl (by simp)))
      refine Las rfl rfl rfl rfl rfl (Ls_nil (Th_n (hK11 _ _ ?_)))
      refine Wp_seq fun K12 hK12 => ?_
      refine Wp_region (Ls_y (wtd0 rfl) rfl rfl (y_fld rfl rfl Ty.fo_37_0) (Ls_y (wtd0 rfl) rfl rfl (y_load (i := 0) rfl rfl Ty.pl_3 (fun _ e => e ▸ st.hp) rfl rfl) ?_))
      refine Ls_a (wtd0 rfl) ?_
      refine a_call rfl rfl rfl rfl (onew_ok (keys (hOf st) ++ X) _ st.Lo s.kind) (fun v w30 ⟨Ar22, cr22, Ar23, cr23, Ar24, cr24, Ar25, cr25, hv, hr22, hr23, hr24, hr25, hf⟩ => ?_)
      subst hv
      have st := st.keep0 hf
      have hF := hF.step0 hf
      have hlehr22 := Sld.le hr22
      have st := st.addK (kS Ar22 ((((onew_m s.kind).1).setF).adds).length cr22 4 (((((onew_m s.kind).1).setF).adds).flatMap addMC)) hr22
      have hlehr23 := Sld.le hr23
      have st := st.addK (kS Ar23 ((((onew_m s.kind).1).setF).gone).length cr23 3 (((((onew_m s.kind).1).setF).gone).flatMap tagMC)) hr23
      have hlehr24 := Sld.le hr24
      have st := st.addK (kS Ar24 ((((onew_m s.kind).1).map).puts).length cr24 7 (((((onew_m s.kind).1).map).puts).flatMap putMC)) hr24
      have hlehr25 := Sld.le hr25
      have st := st.addK (kS Ar25 ((((onew_m s.kind).1).map).gone).length cr25 3 (((((onew_m s.kind).1).map).gone).flatMap tagMC)) hr25
      have st : St X w30 [(_, Cl [_, _, _, _, _, _, _, _, _, _] _), (_, Cl [_, _, _] _), (_, Cl [_, _, _] _), (_, Cl [_, _] _), (_, Cl [_, _, _, _, _, _, _, _, _] _), (_, Cl [_, _, _, _, _, _, _, _, _] _)] [_, _, _, _, _, _, _, _, _, _, _, _, _, _, _] := st
      refine Lmv rfl rfl rfl rfl rfl (Lex rfl rfl rfl rfl rfl rfl (Lex rfl rfl rfl rfl rfl rfl (Ls_a (wtd0 rfl) ?_)))
      refine a_alloc rfl rfl rfl Ty.zc_60 st.hp (fun g11 w31 (hp : Hp w31 [(_, Cl [_, _, _, _, _, _, _, _, _, _] _), (_, Cl [_, _, _] _), (_, Cl [_, _, _] _), (_, Cl [_, _] _), (_, Cl [_, _, _, _, _, _, _, _, _] _), (_, Cl [_, _, _, _, _, _, _, _, _] _), (_, Cl [_, _, _, _, _, _, _, _, _, _] _)]) hf hg11 => ?_)
      have st : St X w31 [(_, Cl [_, _, _, _, _, _, _, _, _, _] _), (_, Cl [_, _, _] _), (_, Cl [_, _, _] _), (_, Cl [_, _] _), (_, Cl [_, _, _, _, _, _, _, _, _] _), (_, Cl [_, _, _, _, _, _, _, _, _] _), (_, Cl [_, _, _, _, _, _, _, _, _, _] _)] [_, _, _, _, _, _, _, _, _, _, _, _, _, _, _] := st.push hp hf hg11
      have hg11 := Nat.le_trans hF.size hg11
      have hF := hF.step0 hf
      refine Ls_a (wtd0 rfl) ?_
      refine a_storew (i := 6) rfl rfl rfl rfl Ty.sz_60 rfl (by first | assumption | (simp [Value.oneCell']; done)) st.hp rfl rfl (fun w32 (hp : Hp w32 [(_, Cl [_, _, _, _, _, _, _, _, _, _] _), (_, Cl [_, _, _] _), (_, Cl [_, _, _] _), (_, Cl [_, _] _), (_, Cl [_, _, _, _, _, _, _, _, _] _), (_, Cl [_, _, _, _, _, _, _, _, _] _), (_, Cl [_, _, _, _, _, _, _, _, _, _] _)]) hf _ => ?_)
      have st : St X w32 [(_, Cl [_, _, _, _, _, _, _, _, _, _] _), (_, Cl [_, _, _] _), (_, Cl [_, _, _] _), (_, Cl [_, _] _), (_, Cl [_, _, _, _, _, _, _, _, _] _), (_, Cl [_, _, _, _, _, _, _, _, _] _), (_, Cl [_, _, _, _, _, _, _, _, _, _] _)] [_, _, _, _, _, _, _, _, _, _, _, _, _, _, _] := st.set (i := 6) rfl hp hf
      have hF := hF.step hf (by intro y hy; simp only [List.mem_cons, List.not_mem_nil, or_false] at hy; subst hy; first | (exact Or.inr (by omega)) | (exact Or.inl (kin0 _ _)) | (exact Or.inl (by simp)))
      refine Las rfl rfl rfl rfl rfl (Ls_nil (Th_n (hK12 _ _ ?_)))
      refine Wp_seq fun K13 hK13 => ?_
      refine Wp_region (Ls_y (wtd0 rfl) rfl rfl (y_fld rfl rfl Ty.fo_37_0) (Ls_y (wtd0 rfl) rfl rfl (y_load (i := 0) rfl rfl Ty.pl_3 (fun _ e => e ▸ st.hp) rfl rfl) ?_))
      refine Ls_a (wtd0 rfl) ?_
      refine a_call rfl rfl rfl rfl (r14new_ok (keys (hOf st) ++ X) _ st.Lo s.kind) (fun v w33 ⟨Ar26, cr26, Ar27, cr27, Ar28, cr28, Ar29, cr29, hv, hr26, hr27, hr28, hr29, hf⟩ => ?_)
      subst hv
      have st := st.keep0 hf
      have hF := hF.step0 hf
      have hlehr26 := Sld.le hr26
      have st := st.addK (kS Ar26 ((((r14new_m s.kind).1).setF).adds).length cr26 4 (((((r14new_m s.kind).1).setF).adds).flatMap addMC)) hr26
      have hlehr27 := Sld.le hr27
      have st := st.addK (kS Ar27 ((((r14new_m s.kind).1).setF).gone).length cr27 3 (((((r14new_m s.kind).1).setF).gone).flatMap tagMC)) hr27
      have hlehr28 := Sld.le hr28
      have st := st.addK (kS Ar28 ((((r14new_m s.kind).1).map).puts).length cr28 7 (((((r14new_m s.kind).1).map).puts).flatMap putMC)) hr28
      have hlehr29 := Sld.le hr29
      have st := st.addK (kS Ar29 ((((r14new_m s.kind).1).map).gone).length cr29 3 (((((r14new_m s.kind).1).map).gone).flatMap tagMC)) hr29
      have st : St X w33 [(_, Cl [_, _, _, _, _, _, _, _, _, _] _), (_, Cl [_, _, _] _), (_, Cl [_, _, _] _), (_, Cl [_, _] _), (_, Cl [_, _, _, _, _, _, _, _, _] _), (_, Cl [_, _, _, _, _, _, _, _, _] _), (_, Cl [_, _, _, _, _, _, _, _, _, _] _)] [_, _, _, _, _, _, _, _, _, _, _, _, _, _, _, _, _, _, _] := st
      refine Lmv rfl rfl rfl rfl rfl (Lex rfl rfl rfl rfl rfl rfl (Lex rfl rfl rfl rfl rfl rfl (Ls_a (wtd0 rfl) ?_)))
      refine a_alloc rfl rfl rfl Ty.zc_37 st.hp (fun g12 w34 (hp : Hp w34 [(_, Cl [_, _, _, _, _, _, _, _, _, _] _), (_, Cl [_, _, _] _), (_, Cl [_, _, _] _), (_, Cl [_, _] _), (_, Cl [_, _, _, _, _, _, _, _, _] _), (_, Cl [_, _, _, _, _, _, _, _, _] _), (_, Cl [_, _, _, _, _, _, _, _, _, _] _), (_, Cl [_, _, _, _, _, _, _, _, _, _] _)]) hf hg12 => ?_)
      have st : St X w34 [(_, Cl [_, _, _, _, _, _, _, _, _, _] _), (_, Cl [_, _, _] _), (_, Cl [_, _, _] _), (_, Cl [_, _] _), (_, Cl [_, _, _, _, _, _, _, _, _] _), (_, Cl [_, _, _, _, _, _, _, _, _] _), (_, Cl [_, _, _, _, _, _, _, _, _, _] _), (_, Cl [_, _, _, _, _, _, _, _, _, _] _)] [_, _, _, _, _, _, _, _, _, _, _, _, _, _, _, _, _, _, _] := st.push hp hf hg12
      have hg12 := Nat.le_trans hF.size hg12
      have hF := hF.step0 hf
      refine Ls_a (wtd0 rfl) ?_
      refine a_storew (i := 7) rfl rfl rfl rfl Ty.sz_37 rfl (by first | assumption | (simp [Value.oneCell']; done)) st.hp rfl rfl (fun w35 (hp : Hp w35 [(_, Cl [_, _, _, _, _, _, _, _, _, _] _), (_, Cl [_, _, _] _), (_, Cl [_, _, _] _), (_, Cl [_, _] _), (_, Cl [_, _, _, _, _, _, _, _, _] _), (_, Cl [_, _, _, _, _, _, _, _, _] _), (_, Cl [_, _, _, _, _, _, _, _, _, _] _), (_, Cl [_, _, _, _, _, _, _, _, _, _] _)]) hf _ => ?_)
      have st : St X w35 [(_, Cl [_, _, _, _, _, _, _, _, _, _] _), (_, Cl [_, _, _] _), (_, Cl [_, _, _] _), (_, Cl [_, _] _), (_, Cl [_, _, _, _, _, _, _, _, _] _), (_, Cl [_, _, _, _, _, _, _, _, _] _), (_, Cl [_, _, _, _, _, _, _, _, _, _] _), (_, Cl [_, _, _, _, _, _, _, _, _, _] _)] [_, _, _, _, _, _, _, _, _, _, _, _, _, _, _, _, _, _, _] := st.set (i := 7) rfl hp hf
      have hF := hF.step hf (by intro y hy; simp only [List.mem_cons, List.not_mem_nil, or_false] at hy; subst hy; first | (exact Or.inr (by omega)) | (exact Or.inl (kin0 _ _)) | (exact Or.inl (by simp)))
      refine Las rfl rfl rfl rfl rfl (Ls_nil (Th_n (hK13 _ _ ?_)))
      refine Wp_seq fun K14 hK14 => ?_
      refine Wp_plan (fun W => St X W (pickL (hOf st) [0, 1, 2, 3, 4, 5, 6, 7]) (kOf st)) [(true, 0), (true, 2), (false, 1), (false, 3), (true, 4), (true, 5), (true, 6), (true, 7), (true, 8), (true, 9), (true, 10), (true, 12), (false, 11), (false, 13), (true, 14), (true, 15), (true, 16), (true, 17), (true, 18), (true, 19), (true, 20)] Ty.mx_0 (by kernel_rfl) (by kernel_rfl) rfl ((st.picks [0, 1, 2, 3, 4, 5, 6, 7] (by decide)).drew) ?_
      have st := st.drew
      have hF := hF.step0 (Fr.drew _)
      refine Pl_y rfl (wtd0 rfl) rfl rfl (y_loadw (i := 4) rfl rfl Ty.ag_47 (fun _ h => h.hp) rfl rfl) ?_
      refine Pl_y rfl (wtd0 rfl) rfl rfl (y_loadw (i := 5) rfl rfl Ty.ag_46 (fun _ h => h.hp) rfl rfl) ?_
      refine Pl_a rfl (wtd0 rfl) (by rfl) ?_
      refine a_call rfl rfl rfl rfl (fromEff_ok (keys (hOf st) ++ X) _ st.Lo ((oprepare_m (to14_m s) (op14_m o) tag at_).1) Ar20 cr20 (st.k (i := 9) rfl)) (fun v w36 ⟨Ar30, cr30, hv, hr30, hf⟩ => ?_)
      subst hv
      have st := st.keep0 hf
      have hF := hF.step0 hf
      have hlehr30 := Sld.le hr30
      have st := st.addK (kS Ar30 ((fromEff_m ((oprepare_m (to14_m s) (op14_m o) tag at_).1)).tags).length cr30 3 (((fromEff_m ((oprepare_m (to14_m s) (op14_m o) tag at_).1)).tags).flatMap tagMC)) hr30
      have st : St X w36 [(_, Cl [_, _, _, _, _, _, _, _, _, _] _), (_, Cl [_, _, _] _), (_, Cl [_, _, _] _), (_, Cl [_, _] _), (_, Cl [_, _, _, _, _, _, _, _, _] _), (_, Cl [_, _, _, _, _, _, _, _, _] _), (_, Cl [_, _, _, _, _, _, _, _, _, _] _), (_, Cl [_, _, _, _, _, _, _, _, _, _] _)] [_, _, _, _, _, _, _, _, _, _, _, _, _, _, _, _, _, _, _, _] := st
      refine ⟨(st.picks [0, 1, 2, 3, 4, 5, 6, 7] (by decide)).takeK 19, ?_⟩
      refine Pl_a rfl (wtd0 rfl) (by rfl) ?_
      refine a_call rfl rfl rfl rfl (sameEffect_ok (keys (hOf st) ++ X) _ st.Lo (fromEff_m ((oprepare_m (to14_m s) (op14_m o) tag at_).1)) Ar30 cr30 ((r14prepare_m s o tag at_).1) Ar21 cr21 (st.k (i := 19) rfl) (st.k (i := 10) rfl)) (fun v w37 ⟨hv, hf⟩ => ?_)
      subst hv
      have st := st.keep0 hf
      have hF := hF.step0 hf
      have st : St X w37 [(_, Cl [_, _, _, _, _, _, _, _, _, _] _), (_, Cl [_, _, _] _), (_, Cl [_, _, _] _), (_, Cl [_, _] _), (_, Cl [_, _, _, _, _, _, _, _, _] _), (_, Cl [_, _, _, _, _, _, _, _, _] _), (_, Cl [_, _, _, _, _, _, _, _, _, _] _), (_, Cl [_, _, _, _, _, _, _, _, _, _] _)] [_, _, _, _, _, _, _, _, _, _, _, _, _, _, _, _, _, _, _, _] := st
      refine ⟨(st.picks [0, 1, 2, 3, 4, 5, 6, 7] (by decide)).takeK 19, ?_⟩
      refine Pmv rfl rfl rfl rfl rfl rfl ?_
      have hd4 : (sameEffect_m (fromEff_m ((oprepare_m (to14_m s) (op14_m o) tag at_).1)) ((r14prepare_m s o tag at_).1)) = true := by
        rw [hprep]; exact sameEffect_refl _
      refine Pl_bool 60 rfl (fun _ => ?_) (fun hc6 => absurd hc6 (by first | (simp [hd4]; done) | (rw [hd4]; simp; done) | simpa using hd4))
      refine Pl_y rfl (wtdT rfl rfl rfl) rfl rfl (y_move rfl rfl) (Pl_y rfl (wtdT rfl rfl rfl) rfl rfl (y_move rfl rfl) (Pl_y rfl (wtdT rfl rfl rfl) rfl rfl (y_eq rfl rfl rfl) (Pl_y rfl (wtd0 rfl) rfl rfl (y_pick_t rfl rfl rfl) (Pmv rfl rfl rfl rfl rfl rfl ?_))))
      have hd5 : ((oprepare_m (to14_m s) (op14_m o) tag at_).2) = ((r14prepare_m s o tag at_).2) := by
        rw [hprep]
      refine Pl_bool 65 rfl (fun _ => ?_) (fun hc7 => absurd hc7 (by first | (simp [hd5]; done) | (rw [hd5]; simp; done) | simpa using hd5))
      refine Pl_y rfl (wtdT rfl rfl rfl) rfl rfl (y_loadw (i := 6) rfl rfl Ty.ag_60 (fun _ h => h.hp) rfl rfl) ?_
      refine Pl_y rfl (wtdT rfl rfl rfl) rfl rfl (y_loadw (i := 7) rfl rfl Ty.ag_37 (fun _ h => h.hp) rfl rfl) ?_
      refine Pl_a rfl (wtdT rfl rfl rfl) (by rfl) ?_
      refine a_call rfl rfl rfl rfl (from14_ok (keys (hOf st) ++ X) _ st.Lo ((onew_m s.kind).1) Ar22 cr22 Ar23 cr23 Ar24 cr24 Ar25 cr25 (st.k (i := 11) rfl) (st.k (i := 12) rfl) (st.k (i := 13) rfl) (st.k (i := 14) rfl) (by simp [em1]) (by simp [em2]) (by simp [em3]) (by simp [em4])) (fun v w38 ⟨Ar31, cr31, Ar32, cr32, Ar33, cr33, Ar34, cr34, hv, hr31, hr32, hr33, hr34, hf⟩ => ?_)
      subst hv
      have st := st.keep0 hf
      have hF := hF.step0 hf
      have hlehr31 := Sld.le hr31
      have st := st.addK (kS Ar31 (((from14_m ((onew_m s.kind).1)).setF).adds).length cr31 4 ((((from14_m ((onew_m s.kind).1)).setF).adds).flatMap addMC)) hr31
      have hlehr32 := Sld.le hr32
      have st := st.addK (kS Ar32 (((from14_m ((onew_m s.kind).1)).setF).gone).length cr32 3 ((((from14_m ((onew_m s.kind).1)).setF).gone).flatMap tagMC)) hr32
      have hlehr33 := Sld.le hr33
      have st := st.addK (kS Ar33 (((from14_m ((onew_m s.kind).1)).map).puts).length cr33 7 ((((from14_m ((onew_m s.kind).1)).map).puts).flatMap putMC)) hr33
      have hlehr34 := Sld.le hr34
      have st := st.addK (kS Ar34 (((from14_m ((onew_m s.kind).1)).map).gone).length cr34 3 ((((from14_m ((onew_m s.kind).1)).map).gone).flatMap tagMC)) hr34
      have st : St X w38 [(_, Cl [_, _, _, _, _, _, _, _, _, _] _), (_, Cl [_, _, _] _), (_, Cl [_, _, _] _), (_, Cl [_, _] _), (_, Cl [_, _, _, _, _, _, _, _, _] _), (_, Cl [_, _, _, _, _, _, _, _, _] _), (_, Cl [_, _, _, _, _, _, _, _, _, _] _), (_, Cl [_, _, _, _, _, _, _, _, _, _] _)] [_, _, _, _, _, _, _, _, _, _, _, _, _, _, _, _, _, _, _, _, _, _, _, _] := st
      refine ⟨(st.picks [0, 1, 2, 3, 4, 5, 6, 7] (by decide)).takeK 19, ?_⟩
      refine Pl_a rfl (wtdT rfl rfl rfl) (by rfl) ?_
      refine a_call rfl rfl rfl rfl (r14same_ok (keys (hOf st) ++ X) _ st.Lo (from14_m ((onew_m s.kind).1)) Ar31 cr31 Ar32 cr32 Ar33 cr33 Ar34 cr34 ((r14new_m s.kind).1) Ar26 cr26 Ar27 cr27 Ar28 cr28 Ar29 cr29 (st.k (i := 20) rfl) (st.k (i := 21) rfl) (st.k (i := 22) rfl) (st.k (i := 23) rfl) (st.k (i := 15) rfl) (st.k (i := 16) rfl) (st.k (i := 17) rfl) (st.k (i := 18) rfl)) (fun v w39 ⟨hv, hf⟩ => ?_)
      subst hv
      have st := st.keep0 hf
      have hF := hF.step0 hf
      have st : St X w39 [(_, Cl [_, _, _, _, _, _, _, _, _, _] _), (_, Cl [_, _, _] _), (_, Cl [_, _, _] _), (_, Cl [_, _] _), (_, Cl [_, _, _, _, _, _, _, _, _] _), (_, Cl [_, _, _, _, _, _, _, _, _] _), (_, Cl [_, _, _, _, _, _, _, _, _, _] _), (_, Cl [_, _, _, _, _, _, _, _, _, _] _)] [_, _, _, _, _, _, _, _, _, _, _, _, _, _, _, _, _, _, _, _, _, _, _, _] := st
      refine ⟨(st.picks [0, 1, 2, 3, 4, 5, 6, 7] (by decide)).takeK 19, ?_⟩
      refine Pl_y rfl (wtd0 rfl) rfl rfl (y_pick_t rfl rfl rfl) (Pmv rfl rfl rfl rfl rfl rfl ?_)
      have hd6 : (r14same_m (from14_m ((onew_m s.kind).1)) ((r14new_m s.kind).1)) = true := by
        rw [from14_eq]; exact r14same_refl _
      refine Pl_bool 71 rfl (fun _ => ?_) (fun hc8 => absurd hc8 (by first | (simp [hd6]; done) | (rw [hd6]; simp; done) | simpa using hd6))
      refine Pl_y rfl (wtdT rfl rfl rfl) rfl rfl (y_move rfl rfl) (Pl_y rfl (wtdT rfl rfl rfl) rfl rfl (y_move rfl rfl) (Pl_y rfl (wtdT rfl rfl rfl) rfl rfl (y_eq rfl rfl rfl) (Pl_y rfl (wtd0 rfl) rfl rfl (y_pick_t rfl rfl rfl) (Pl_y rfl (wtd0 rfl) rfl rfl (y_assign rfl rfl) (Pl_nil (Th_n (hK14 _ _ ?_)))))))
      refine Wp_ret (Fq_ret (Res1 rfl rfl) ?_)
      have hres : (((onew_m s.kind).2) == ((r14new_m s.kind).2)) = true := by
        exact beq_iff_eq.2 rfl
      rw [hres]
      exact ⟨rfl, hF⟩
    refine a_alloc rfl rfl rfl Ty.zc_47 st.hp (fun g13 w40 (hp : Hp w40 [(_, Cl [_, _, _, _, _, _, _, _, _, _] _), (_, Cl [_, _, _] _), (_, Cl [_, _, _] _), (_, Cl [_, _] _), (_, Cl [_, _, _, _, _, _, _, _, _] _)]) hf hg13 => ?_)
    have st : St X w40 [(_, Cl [_, _, _, _, _, _, _, _, _, _] _), (_, Cl [_, _, _] _), (_, Cl [_, _, _] _), (_, Cl [_, _] _), (_, Cl [_, _, _, _, _, _, _, _, _] _)] [_, _, _, _, _, _, _, _, _] := st.push hp hf hg13
    have hg13 := Nat.le_trans hF.size hg13
    have hF := hF.step0 hf
    refine ⟨(st.picks [0, 1, 2, 3] (by decide)).takeK 5, ?_⟩
    refine Px_a (i := 3) (by kernel_rfl) rfl (wtd0 rfl) ?_
    refine a_call rfl rfl rfl rfl (op14_ok _ o) (fun v w41 ⟨hv, hf⟩ => ?_)
    subst hv
    have st := st.keep0 hf
    have hF := hF.step0 hf
    have st : St X w41 [(_, Cl [_, _, _, _, _, _, _, _, _, _] _), (_, Cl [_, _, _] _), (_, Cl [_, _, _] _), (_, Cl [_, _] _), (_, Cl [_, _, _, _, _, _, _, _, _] _)] [_, _, _, _, _, _, _, _, _] := st
    refine ⟨(st.picks [0, 1, 2, 3] (by decide)).takeK 5, ?_⟩
    refine Px_a (i := 6) (by kernel_rfl) rfl (wtd0 rfl) ?_
    refine a_call rfl rfl rfl rfl (oprepare_ok (keys (hOf st) ++ X) _ st.Lo (to14_m s) Ar1 cr1 Ar2 cr2 Ar3 cr3 Ar4 cr4 (op14_m o) tag at_ (st.k (i := 5) rfl) (st.k (i := 6) rfl) (st.k (i := 7) rfl) (st.k (i := 8) rfl) (by rw [to14_eq]; omega) (by rw [to14_eq]; omega) (by rw [to14_eq]; omega) (by rw [to14_eq]; omega)) (fun v w42 ⟨Ar35, cr35, hv, hr35, hf⟩ => ?_)
    subst hv
    have st := st.keep0 hf
    have hF := hF.step0 hf
    have hlehr35 := Sld.le hr35
    have st := st.addK (kS Ar35 (((oprepare_m (to14_m s) (op14_m o) tag at_).1).tags).length cr35 3 ((((oprepare_m (to14_m s) (op14_m o) tag at_).1).tags).flatMap tagMC)) hr35
    have st : St X w42 [(_, Cl [_, _, _, _, _, _, _, _, _, _] _), (_, Cl [_, _, _] _), (_, Cl [_, _, _] _), (_, Cl [_, _] _), (_, Cl [_, _, _, _, _, _, _, _, _] _)] [_, _, _, _, _, _, _, _, _, _] := st
    refine ⟨(st.picks [0, 1, 2, 3] (by decide)).takeK 5, ?_⟩
    refine Px_y (i := 7) rfl (by kernel_rfl) (wtd0 rfl) rfl rfl (y_move rfl rfl) ?_
    refine Px_y (i := 8) rfl (by kernel_rfl) (wtd0 rfl) rfl rfl (y_ext rfl rfl rfl) ?_
    refine Px_y (i := 9) rfl (by kernel_rfl) (wtd0 rfl) rfl rfl (y_ext rfl rfl rfl) ?_
    refine Px_a (i := 11) (by kernel_rfl) rfl (wtd0 rfl) ?_
    refine a_storew (i := 4) rfl rfl rfl rfl Ty.sz_47 rfl (by first | assumption | (simp [Value.oneCell']; done)) st.hp rfl rfl (fun w43 (hp : Hp w43 [(_, Cl [_, _, _, _, _, _, _, _, _, _] _), (_, Cl [_, _, _] _), (_, Cl [_, _, _] _), (_, Cl [_, _] _), (_, Cl [_, _, _, _, _, _, _, _, _] _)]) hf _ => ?_)
    have st : St X w43 [(_, Cl [_, _, _, _, _, _, _, _, _, _] _), (_, Cl [_, _, _] _), (_, Cl [_, _, _] _), (_, Cl [_, _] _), (_, Cl [_, _, _, _, _, _, _, _, _] _)] [_, _, _, _, _, _, _, _, _, _] := st.set (i := 4) rfl hp hf
    have hF := hF.step hf (by intro y hy; simp only [List.mem_cons, List.not_mem_nil, or_false] at hy; subst hy; first | (exact Or.inr (by omega)) | (exact Or.inl (kin0 _ _)) | (exact Or.inl (by simp)))
    refine ⟨(st.picks [0, 1, 2, 3] (by decide)).takeK 5, ?_⟩
    refine Px_y (i := 12) rfl (by kernel_rfl) (wtd0 rfl) rfl rfl (y_assign rfl rfl) ?_
    refine Px_done (by kernel_rfl) (Th_n (hK6 _ _ ?_))
    refine Wp_seq fun K15 hK15 => ?_
    refine Wp_region (Ls_y (wtd0 rfl) rfl rfl (y_loadw (i := 0) rfl rfl Ty.ag_37 (fun _ e => e ▸ st.hp) rfl rfl) ?_)
    refine Ls_y (wtd0 rfl) rfl rfl (y_loadw (i := 1) rfl rfl Ty.ag_39 (fun _ e => e ▸ st.hp) rfl rfl) ?_
    refine Ls_y (wtd0 rfl) rfl rfl (y_loadw (i := 2) rfl rfl Ty.ag_43 (fun _ e => e ▸ st.hp) rfl rfl) ?_
    refine Ls_y (wtd0 rfl) rfl rfl (y_loadw (i := 3) rfl rfl Ty.ag_24 (fun _ e => e ▸ st.hp) rfl rfl) ?_
    refine Ls_a (wtd0 rfl) ?_
    refine a_call rfl rfl rfl rfl (r14prepare_ok (keys (hOf st) ++ X) _ st.Lo s A_s_setF_adds c_s_setF_adds A_s_setF_gone c_s_setF_gone A_s_map_puts c_s_map_puts A_s_map_gone c_s_map_gone o tag at_ (st.k (i := 0) rfl) (st.k (i := 1) rfl) (st.k (i := 2) rfl) (st.k (i := 3) rfl) (by omega) (by omega)) (fun v w44 ⟨Ar36, cr36, hv, hr36, hf⟩ => ?_)
    subst hv
    have st := st.keep0 hf
    have hF := hF.step0 hf
    have hlehr36 := Sld.le hr36
    have st := st.addK (kS Ar36 (((r14prepare_m s o tag at_).1).tags).length cr36 3 ((((r14prepare_m s o tag at_).1).tags).flatMap tagMC)) hr36
    have st : St X w44 [(_, Cl [_, _, _, _, _, _, _, _, _, _] _), (_, Cl [_, _, _] _), (_, Cl [_, _, _] _), (_, Cl [_, _] _), (_, Cl [_, _, _, _, _, _, _, _, _] _)] [_, _, _, _, _, _, _, _, _, _, _] := st
    refine Lmv rfl rfl rfl rfl rfl (Lex rfl rfl rfl rfl rfl rfl (Lex rfl rfl rfl rfl rfl rfl (Ls_a (wtd0 rfl) ?_)))
    refine a_alloc rfl rfl rfl Ty.zc_46 st.hp (fun g14 w45 (hp : Hp w45 [(_, Cl [_, _, _, _, _, _, _, _, _, _] _), (_, Cl [_, _, _] _), (_, Cl [_, _, _] _), (_, Cl [_, _] _), (_, Cl [_, _, _, _, _, _, _, _, _] _), (_, Cl [_, _, _, _, _, _, _, _, _] _)]) hf hg14 => ?_)
    have st : St X w45 [(_, Cl [_, _, _, _, _, _, _, _, _, _] _), (_, Cl [_, _, _] _), (_, Cl [_, _, _] _), (_, Cl [_, _] _), (_, Cl [_, _, _, _, _, _, _, _, _] _), (_, Cl [_, _, _, _, _, _, _, _, _] _)] [_, _, _, _, _, _, _, _, _, _, _] := st.push hp hf hg14
    have hg14 := Nat.le_trans hF.size hg14
    have hF := hF.step0 hf
    refine Ls_a (wtd0 rfl) ?_
    refine a_storew (i := 5) rfl rfl rfl rfl Ty.sz_46 rfl (by first | assumption | (simp [Value.oneCell']; done)) st.hp rfl rfl (fun w46 (hp : Hp w46 [(_, Cl [_, _, _, _, _, _, _, _, _, _] _), (_, Cl [_, _, _] _), (_, Cl [_, _, _] _), (_, Cl [_, _] _), (_, Cl [_, _, _, _, _, _, _, _, _] _), (_, Cl [_, _, _, _, _, _, _, _, _] _)]) hf _ => ?_)
    have st : St X w46 [(_, Cl [_, _, _, _, _, _, _, _, _, _] _), (_, Cl [_, _, _] _), (_, Cl [_, _, _] _), (_, Cl [_, _] _), (_, Cl [_, _, _, _, _, _, _, _, _] _), (_, Cl [_, _, _, _, _, _, _, _, _] _)] [_, _, _, _, _, _, _, _, _, _, _] := st.set (i := 5) rfl hp hf
    have hF := hF.step hf (by intro y hy; simp only [List.mem_cons, List.not_mem_nil, or_false] at hy; subst hy; first | (exact Or.inr (by omega)) | (exact Or.inl (kin0 _ _)) | (exact Or.inl (by simp)))
    refine Las rfl rfl rfl rfl rfl (Ls_nil (Th_n (hK15 _ _ ?_)))
    refine Wp_seq fun K16 hK16 => ?_
    refine Wp_region (Ls_y (wtd0 rfl) rfl rfl (y_fld rfl rfl Ty.fo_37_0) (Ls_y (wtd0 rfl) rfl rfl (y_load (i := 0) rfl rfl Ty.pl_3 (fun _ e => e ▸ st.hp) rfl rfl) ?_))
    refine Ls_a (wtd0 rfl) ?_
    refine a_call rfl rfl rfl rfl (onew_ok (keys (hOf st) ++ X) _ st.Lo s.kind) (fun v w47 ⟨Ar37, cr37, Ar38, cr38, Ar39, cr39, Ar40, cr40, hv, hr37, hr38, hr39, hr40, hf⟩ => ?_)
    subst hv
    have st := st.keep0 hf
    have hF := hF.step0 hf
    have hlehr37 := Sld.le hr37
    have st := st.addK (kS Ar37 ((((onew_m s.kind).1).setF).adds).length cr37 4 (((((onew_m s.kind).1).setF).adds).flatMap addMC)) hr37
    have hlehr38 := Sld.le hr38
    have st := st.addK (kS Ar38 ((((onew_m s.kind).1).setF).gone).length cr38 3 (((((onew_m s.kind).1).setF).gone).flatMap tagMC)) hr38
    have hlehr39 := Sld.le hr39
    have st := st.addK (kS Ar39 ((((onew_m s.kind).1).map).puts).length cr39 7 (((((onew_m s.kind).1).map).puts).flatMap putMC)) hr39
    have hlehr40 := Sld.le hr40
    have st := st.addK (kS Ar40 ((((onew_m s.kind).1).map).gone).length cr40 3 (((((onew_m s.kind).1).map).gone).flatMap tagMC)) hr40
    have st : St X w47 [(_, Cl [_, _, _, _, _, _, _, _, _, _] _), (_, Cl [_, _, _] _), (_, Cl [_, _, _] _), (_, Cl [_, _] _), (_, Cl [_, _, _, _, _, _, _, _, _] _), (_, Cl [_, _, _, _, _, _, _, _, _] _)] [_, _, _, _, _, _, _, _, _, _, _, _, _, _, _] := st
    refine Lmv rfl rfl rfl rfl rfl (Lex rfl rfl rfl rfl rfl rfl (Lex rfl rfl rfl rfl rfl rfl (Ls_a (wtd0 rfl) ?_)))
    refine a_alloc rfl rfl rfl Ty.zc_60 st.hp (fun g15 w48 (hp : Hp w48 [(_, Cl [_, _, _, _, _, _, _, _, _, _] _), (_, Cl [_, _, _] _), (_, Cl [_, _, _] _), (_, Cl [_, _] _), (_, Cl [_, _, _, _, _, _, _, _, _] _), (_, Cl [_, _, _, _, _, _, _, _, _] _), (_, Cl [_, _, _, _, _, _, _, _, _, _] _)]) hf hg15 => ?_)
    have st : St X w48 [(_, Cl [_, _, _, _, _, _, _, _, _, _] _), (_, Cl [_, _, _] _), (_, Cl [_, _, _] _), (_, Cl [_, _] _), (_, Cl [_, _, _, _, _, _, _, _, _] _), (_, Cl [_, _, _, _, _, _, _, _, _] _), (_, Cl [_, _, _, _, _, _, _, _, _, _] _)] [_, _, _, _, _, _, _, _, _, _, _, _, _, _, _] := st.push hp hf hg15
    have hg15 := Nat.le_trans hF.size hg15
    have hF := hF.step0 hf
    refine Ls_a (wtd0 rfl) ?_
    refine a_storew (i := 6) rfl rfl rfl rfl Ty.sz_60 rfl (by first | assumption | (simp [Value.oneCell']; done)) st.hp rfl rfl (fun w49 (hp : Hp w49 [(_, Cl [_, _, _, _, _, _, _, _, _, _] _), (_, Cl [_, _, _] _), (_, Cl [_, _, _] _), (_, Cl [_, _] _), (_, Cl [_, _, _, _, _, _, _, _, _] _), (_, Cl [_, _, _, _, _, _, _, _, _] _), (_, Cl [_, _, _, _, _, _, _, _, _, _] _)]) hf _ => ?_)
    have st : St X w49 [(_, Cl [_, _, _, _, _, _, _, _, _, _] _), (_, Cl [_, _, _] _), (_, Cl [_, _, _] _), (_, Cl [_, _] _), (_, Cl [_, _, _, _, _, _, _, _, _] _), (_, Cl [_, _, _, _, _, _, _, _, _] _), (_, Cl [_, _, _, _, _, _, _, _, _, _] _)] [_, _, _, _, _, _, _, _, _, _, _, _, _, _, _] := st.set (i := 6) rfl hp hf
    have hF := hF.step hf (by intro y hy; simp only [List.mem_cons, List.not_mem_nil, or_false] at hy; subst hy; first | (exact Or.inr (by omega)) | (exact Or.inl (kin0 _ _)) | (exact Or.inl (by simp)))
    refine Las rfl rfl rfl rfl rfl (Ls_nil (Th_n (hK16 _ _ ?_)))
    refine Wp_seq fun K17 hK17 => ?_
    refine Wp_region (Ls_y (wtd0 rfl) rfl rfl (y_fld rfl rfl Ty.fo_37_0) (Ls_y (wtd0 rfl) rfl rfl (y_load (i := 0) rfl rfl Ty.pl_3 (fun _ e => e ▸ st.hp) rfl rfl) ?_))
    refine Ls_a (wtd0 rfl) ?_
    refine a_call rfl rfl rfl rfl (r14new_ok (keys (hOf st) ++ X) _ st.Lo s.kind) (fun v w50 ⟨Ar41, cr41, Ar42, cr42, Ar43, cr43, Ar44, cr44, hv, hr41, hr42, hr43, hr44, hf⟩ => ?_)
    subst hv
    have st := st.keep0 hf
    have hF := hF.step0 hf
    have hlehr41 := Sld.le hr41
    have st := st.addK (kS Ar41 ((((r14new_m s.kind).1).setF).adds).length cr41 4 (((((r14new_m s.kind).1).setF).adds).flatMap addMC)) hr41
    have hlehr42 := Sld.le hr42
    have st := st.addK (kS Ar42 ((((r14new_m s.kind).1).setF).gone).length cr42 3 (((((r14new_m s.kind).1).setF).gone).flatMap tagMC)) hr42
    have hlehr43 := Sld.le hr43
    have st := st.addK (kS Ar43 ((((r14new_m s.kind).1).map).puts).length cr43 7 (((((r14new_m s.kind).1).map).puts).flatMap putMC)) hr43
    have hlehr44 := Sld.le hr44
    have st := st.addK (kS Ar44 ((((r14new_m s.kind).1).map).gone).length cr44 3 (((((r14new_m s.kind).1).map).gone).flatMap tagMC)) hr44
    have st : St X w50 [(_, Cl [_, _, _, _, _, _, _, _, _, _] _), (_, Cl [_, _, _] _), (_, Cl [_, _, _] _), (_, Cl [_, _] _), (_, Cl [_, _, _, _, _, _, _, _, _] _), (_, Cl [_, _, _, _, _, _, _, _, _] _), (_, Cl [_, _, _, _, _, _, _, _, _, _] _)] [_, _, _, _, _, _, _, _, _, _, _, _, _, _, _, _, _, _, _] := st
    refine Lmv rfl rfl rfl rfl rfl (Lex rfl rfl rfl rfl rfl rfl (Lex rfl rfl rfl rfl rfl rfl (Ls_a (wtd0 rfl) ?_)))
    refine a_alloc rfl rfl rfl Ty.zc_37 st.hp (fun g16 w51 (hp : Hp w51 [(_, Cl [_, _, _, _, _, _, _, _, _, _] _), (_, Cl [_, _, _] _), (_, Cl [_, _, _] _), (_, Cl [_, _] _), (_, Cl [_, _, _, _, _, _, _, _, _] _), (_, Cl [_, _, _, _, _, _, _, _, _] _), (_, Cl [_, _, _, _, _, _, _, _, _, _] _), (_, Cl [_, _, _, _, _, _, _, _, _, _] _)]) hf hg16 => ?_)
    have st : St X w51 [(_, Cl [_, _, _, _, _, _, _, _, _, _] _), (_, Cl [_, _, _] _), (_, Cl [_, _, _] _), (_, Cl [_, _] _), (_, Cl [_, _, _, _, _, _, _, _, _] _), (_, Cl [_, _, _, _, _, _, _, _, _] _), (_, Cl [_, _, _, _, _, _, _, _, _, _] _), (_, Cl [_, _, _, _, _, _, _, _, _, _] _)] [_, _, _, _, _, _, _, _, _, _, _, _, _, _, _, _, _, _, _] := st.push hp hf hg16
    have hg16 := Nat.le_trans hF.size hg16
    have hF := hF.step0 hf
    refine Ls_a (wtd0 rfl) ?_
    refine a_storew (i := 7) rfl rfl rfl rfl Ty.sz_37 rfl (by first | assumption | (simp [Value.oneCell']; done)) st.hp rfl rfl (fun w52 (hp : Hp w52 [(_, Cl [_, _, _, _, _, _, _, _, _, _] _), (_, Cl [_, _, _] _), (_, Cl [_, _, _] _), (_, Cl [_, _] _), (_, Cl [_, _, _, _, _, _, _, _, _] _), (_, Cl [_, _, _, _, _, _, _, _, _] _), (_, Cl [_, _, _, _, _, _, _, _, _, _] _), (_, Cl [_, _, _, _, _, _, _, _, _, _] _)]) hf _ => ?_)
    have st : St X w52 [(_, Cl [_, _, _, _, _, _, _, _, _, _] _), (_, Cl [_, _, _] _), (_, Cl [_, _, _] _), (_, Cl [_, _] _), (_, Cl [_, _, _, _, _, _, _, _, _] _), (_, Cl [_, _, _, _, _, _, _, _, _] _), (_, Cl [_, _, _, _, _, _, _, _, _, _] _), (_, Cl [_, _, _, _, _, _, _, _, _, _] _)] [_, _, _, _, _, _, _, _, _, _, _, _, _, _, _, _, _, _, _] := st.set (i := 7) rfl hp hf
    have hF := hF.step hf (by intro y hy; simp only [List.mem_cons, List.not_mem_nil, or_false] at hy; subst hy; first | (exact Or.inr (by omega)) | (exact Or.inl (kin0 _ _)) | (exact Or.inl (by simp)))
    refine Las rfl rfl rfl rfl rfl (Ls_nil (Th_n (hK17 _ _ ?_)))
    refine Wp_seq fun K18 hK18 => ?_
    refine Wp_plan (fun W => St X W (pickL (hOf st) [0, 1, 2, 3, 4, 5, 6, 7]) (kOf st)) [(true, 0), (true, 2), (false, 1), (false, 3), (true, 4), (true, 5), (true, 6), (true, 7), (true, 8), (true, 9), (true, 10), (true, 12), (false, 11), (false, 13), (true, 14), (true, 15), (true, 16), (true, 17), (true, 18), (true, 19), (true, 20)] Ty.mx_0 (by kernel_rfl) (by kernel_rfl) rfl ((st.picks [0, 1, 2, 3, 4, 5, 6, 7] (by decide)).drew) ?_
    have st := st.drew
    have hF := hF.step0 (Fr.drew _)
    refine Pl_y rfl (wtd0 rfl) rfl rfl (y_loadw (i := 4) rfl rfl Ty.ag_47 (fun _ h => h.hp) rfl rfl) ?_
    refine Pl_y rfl (wtd0 rfl) rfl rfl (y_loadw (i := 5) rfl rfl Ty.ag_46 (fun _ h => h.hp) rfl rfl) ?_
    refine Pl_a rfl (wtd0 rfl) (by rfl) ?_
    refine a_call rfl rfl rfl rfl (fromEff_ok (keys (hOf st) ++ X) _ st.Lo ((oprepare_m (to14_m s) (op14_m o) tag at_).1) Ar35 cr35 (st.k (i := 9) rfl)) (fun v w53 ⟨Ar45, cr45, hv, hr45, hf⟩ => ?_)
    subst hv
    have st := st.keep0 hf
    have hF := hF.step0 hf
    have hlehr45 := Sld.le hr45
    have st := st.addK (kS Ar45 ((fromEff_m ((oprepare_m (to14_m s) (op14_m o) tag at_).1)).tags).length cr45 3 (((fromEff_m ((oprepare_m (to14_m s) (op14_m o) tag at_).1)).tags).flatMap tagMC)) hr45
    have st : St X w53 [(_, Cl [_, _, _, _, _, _, _, _, _, _] _), (_, Cl [_, _, _] _), (_, Cl [_, _, _] _), (_, Cl [_, _] _), (_, Cl [_, _, _, _, _, _, _, _, _] _), (_, Cl [_, _, _, _, _, _, _, _, _] _), (_, Cl [_, _, _, _, _, _, _, _, _, _] _), (_, Cl [_, _, _, _, _, _, _, _, _, _] _)] [_, _, _, _, _, _, _, _, _, _, _, _, _, _, _, _, _, _, _, _] := st
    refine ⟨(st.picks [0, 1, 2, 3, 4, 5, 6, 7] (by decide)).takeK 19, ?_⟩
    refine Pl_a rfl (wtd0 rfl) (by rfl) ?_
    refine a_call rfl rfl rfl rfl (sameEffect_ok (keys (hOf st) ++ X) _ st.Lo (fromEff_m ((oprepare_m (to14_m s) (op14_m o) tag at_).1)) Ar45 cr45 ((r14prepare_m s o tag at_).1) Ar36 cr36 (st.k (i := 19) rfl) (st.k (i := 10) rfl)) (fun v w54 ⟨hv, hf⟩ => ?_)
    subst hv
    have st := st.keep0 hf
    have hF := hF.step0 hf
    have st : St X w54 [(_, Cl [_, _, _, _, _, _, _, _, _, _] _), (_, Cl [_, _, _] _), (_, Cl [_, _, _] _), (_, Cl [_, _] _), (_, Cl [_, _, _, _, _, _, _, _, _] _), (_, Cl [_, _, _, _, _, _, _, _, _] _), (_, Cl [_, _, _, _, _, _, _, _, _, _] _), (_, Cl [_, _, _, _, _, _, _, _, _, _] _)] [_, _, _, _, _, _, _, _, _, _, _, _, _, _, _, _, _, _, _, _] := st
    refine ⟨(st.picks [0, 1, 2, 3, 4, 5, 6, 7] (by decide)).takeK 19, ?_⟩
    refine Pmv rfl rfl rfl rfl rfl rfl ?_
    have hd7 : (sameEffect_m (fromEff_m ((oprepare_m (to14_m s) (op14_m o) tag at_).1)) ((r14prepare_m s o tag at_).1)) = true := by
      rw [hprep]; exact sameEffect_refl _
    refine Pl_bool 60 rfl (fun _ => ?_) (fun hc9 => absurd hc9 (by first | (simp [hd7]; done) | (rw [hd7]; simp; done) | simpa using hd7))
    refine Pl_y rfl (wtdT rfl rfl rfl) rfl rfl (y_move rfl rfl) (Pl_y rfl (wtdT rfl rfl rfl) rfl rfl (y_move rfl rfl) (Pl_y rfl (wtdT rfl rfl rfl) rfl rfl (y_eq rfl rfl rfl) (Pl_y rfl (wtd0 rfl) rfl rfl (y_pick_t rfl rfl rfl) (Pmv rfl rfl rfl rfl rfl rfl ?_))))
    have hd8 : ((oprepare_m (to14_m s) (op14_m o) tag at_).2) = ((r14prepare_m s o tag at_).2) := by
      rw [hprep]
    refine Pl_bool 65 rfl (fun _ => ?_) (fun hc10 => absurd hc10 (by first | (simp [hd8]; done) | (rw [hd8]; simp; done) | simpa using hd8))
    refine Pl_y rfl (wtdT rfl rfl rfl) rfl rfl (y_loadw (i := 6) rfl rfl Ty.ag_60 (fun _ h => h.hp) rfl rfl) ?_
    refine Pl_y rfl (wtdT rfl rfl rfl) rfl rfl (y_loadw (i := 7) rfl rfl Ty.ag_37 (fun _ h => h.hp) rfl rfl) ?_
    refine Pl_a rfl (wtdT rfl rfl rfl) (by rfl) ?_
    refine a_call rfl rfl rfl rfl (from14_ok (keys (hOf st) ++ X) _ st.Lo ((onew_m s.kind).1) Ar37 cr37 Ar38 cr38 Ar39 cr39 Ar40 cr40 (st.k (i := 11) rfl) (st.k (i := 12) rfl) (st.k (i := 13) rfl) (st.k (i := 14) rfl) (by simp [em1]) (by simp [em2]) (by simp [em3]) (by simp [em4])) (fun v w55 ⟨Ar46, cr46, Ar47, cr47, Ar48, cr48, Ar49, cr49, hv, hr46, hr47, hr48, hr49, hf⟩ => ?_)
    subst hv
    have st := st.keep0 hf
    have hF := hF.step0 hf
    have hlehr46 := Sld.le hr46
    have st := st.addK (kS Ar46 (((from14_m ((onew_m s.kind).1)).setF).adds).length cr46 4 ((((from14_m ((onew_m s.kind).1)).setF).adds).flatMap addMC)) hr46
    have hlehr47 := Sld.le hr47
    have st := st.addK (kS Ar47 (((from14_m ((onew_m s.kind).1)).setF).gone).length cr47 3 ((((from14_m ((onew_m s.kind).1)).setF).gone).flatMap tagMC)) hr47
    have hlehr48 := Sld.le hr48
    have st := st.addK (kS Ar48 (((from14_m ((onew_m s.kind).1)).map).puts).length cr48 7 ((((from14_m ((onew_m s.kind).1)).map).puts).flatMap putMC)) hr48
    have hlehr49 := Sld.le hr49
    have st := st.addK (kS Ar49 (((from14_m ((onew_m s.kind).1)).map).gone).length cr49 3 ((((from14_m ((onew_m s.kind).1)).map).gone).flatMap tagMC)) hr49
    have st : St X w55 [(_, Cl [_, _, _, _, _, _, _, _, _, _] _), (_, Cl [_, _, _] _), (_, Cl [_, _, _] _), (_, Cl [_, _] _), (_, Cl [_, _, _, _, _, _, _, _, _] _), (_, Cl [_, _, _, _, _, _, _, _, _] _), (_, Cl [_, _, _, _, _, _, _, _, _, _] _), (_, Cl [_, _, _, _, _, _, _, _, _, _] _)] [_, _, _, _, _, _, _, _, _, _, _, _, _, _, _, _, _, _, _, _, _, _, _, _] := st
    refine ⟨(st.picks [0, 1, 2, 3, 4, 5, 6, 7] (by decide)).takeK 19, ?_⟩
    refine Pl_a rfl (wtdT rfl rfl rfl) (by rfl) ?_
    refine a_call rfl rfl rfl rfl (r14same_ok (keys (hOf st) ++ X) _ st.Lo (from14_m ((onew_m s.kind).1)) Ar46 cr46 Ar47 cr47 Ar48 cr48 Ar49 cr49 ((r14new_m s.kind).1) Ar41 cr41 Ar42 cr42 Ar43 cr43 Ar44 cr44 (st.k (i := 20) rfl) (st.k (i := 21) rfl) (st.k (i := 22) rfl) (st.k (i := 23) rfl) (st.k (i := 15) rfl) (st.k (i := 16) rfl) (st.k (i := 17) rfl) (st.k (i := 18) rfl)) (fun v w56 ⟨hv, hf⟩ => ?_)
    subst hv
    have st := st.keep0 hf
    have hF := hF.step0 hf
    have st : St X w56 [(_, Cl [_, _, _, _, _, _, _, _, _, _] _), (_, Cl [_, _, _] _), (_, Cl [_, _, _] _), (_, Cl [_, _] _), (_, Cl [_, _, _, _, _, _, _, _, _] _), (_, Cl [_, _, _, _, _, _, _, _, _] _), (_, Cl [_, _, _, _, _, _, _, _, _, _] _), (_, Cl [_, _, _, _, _, _, _, _, _, _] _)] [_, _, _, _, _, _, _, _, _, _, _, _, _, _, _, _, _, _, _, _, _, _, _, _] := st
    refine ⟨(st.picks [0, 1, 2, 3, 4, 5, 6, 7] (by decide)).takeK 19, ?_⟩
    refine Pl_y rfl (wtd0 rfl) rfl rfl (y_pick_t rfl rfl rfl) (Pmv rfl rfl rfl rfl rfl rfl ?_)
    have hd9 : (r14same_m (from14_m ((onew_m s.kind).1)) ((r14new_m s.kind).1)) = true := by
      rw [from14_eq]; exact r14same_refl _
    refine Pl_bool 71 rfl (fun _ => ?_) (fun hc11 => absurd hc11 (by first | (simp [hd9]; done) | (rw [hd9]; simp; done) | simpa using hd9))
    refine Pl_y rfl (wtdT rfl rfl rfl) rfl rfl (y_move rfl rfl) (Pl_y rfl (wtdT rfl rfl rfl) rfl rfl (y_move rfl rfl) (Pl_y rfl (wtdT rfl rfl rfl) rfl rfl (y_eq rfl rfl rfl) (Pl_y rfl (wtd0 rfl) rfl rfl (y_pick_t rfl rfl rfl) (Pl_y rfl (wtd0 rfl) rfl rfl (y_assign rfl rfl) (Pl_nil (Th_n (hK18 _ _ ?_)))))))
    refine Wp_ret (Fq_ret (Res1 rfl rfl) ?_)
    have hres : (((onew_m s.kind).2) == ((r14new_m s.kind).2)) = true := by
      exact beq_iff_eq.2 rfl
    rw [hres]
    exact ⟨rfl, hF⟩
  refine a_alloc rfl rfl rfl Ty.zc_47 st.hp (fun g17 w57 (hp : Hp w57 [(_, Cl [_, _, _, _, _, _, _, _, _, _] _), (_, Cl [_, _, _] _), (_, Cl [_, _, _] _), (_, Cl [_, _] _), (_, Cl [_, _, _, _, _, _, _, _, _] _)]) hf hg17 => ?_)
  have st : St X w57 [(_, Cl [_, _, _, _, _, _, _, _, _, _] _), (_, Cl [_, _, _] _), (_, Cl [_, _, _] _), (_, Cl [_, _] _), (_, Cl [_, _, _, _, _, _, _, _, _] _)] [_, _, _, _, _] := st.push hp hf hg17
  have hg17 := Nat.le_trans hF.size hg17
  have hF := hF.step0 hf
  refine ⟨(st.picks [0, 1, 2, 3] (by decide)).takeK 5, ?_⟩
  refine Px_a (i := 1) (by kernel_rfl) rfl (wtd0 rfl) ?_
  refine a_call rfl rfl rfl rfl (to14_ok (keys (hOf st) ++ X) _ st.Lo s A_s_setF_adds c_s_setF_adds A_s_setF_gone c_s_setF_gone A_s_map_puts c_s_map_puts A_s_map_gone c_s_map_gone (st.k (i := 0) rfl) (st.k (i := 1) rfl) (st.k (i := 2) rfl) (st.k (i := 3) rfl) (by omega) (by omega) (by omega) (by omega)) (fun v w58 ⟨Ar50, cr50, Ar51, cr51, Ar52, cr52, Ar53, cr53, hv, hr50, hr51, hr52, hr53, hf⟩ => ?_)
  subst hv
  have st := st.keep0 hf
  have hF := hF.step0 hf
  have hlehr50 := Sld.le hr50
  have st := st.addK (kS Ar50 (((to14_m s).setF).adds).length cr50 4 ((((to14_m s).setF).adds).flatMap addMC)) hr50
  have hlehr51 := Sld.le hr51
  have st := st.addK (kS Ar51 (((to14_m s).setF).gone).length cr51 3 ((((to14_m s).setF).gone).flatMap tagMC)) hr51
  have hlehr52 := Sld.le hr52
  have st := st.addK (kS Ar52 (((to14_m s).map).puts).length cr52 7 ((((to14_m s).map).puts).flatMap putMC)) hr52
  have hlehr53 := Sld.le hr53
  have st := st.addK (kS Ar53 (((to14_m s).map).gone).length cr53 3 ((((to14_m s).map).gone).flatMap tagMC)) hr53
  have st : St X w58 [(_, Cl [_, _, _, _, _, _, _, _, _, _] _), (_, Cl [_, _, _] _), (_, Cl [_, _, _] _), (_, Cl [_, _] _), (_, Cl [_, _, _, _, _, _, _, _, _] _)] [_, _, _, _, _, _, _, _, _] := st
  refine ⟨(st.picks [0, 1, 2, 3] (by decide)).takeK 5, ?_⟩
  refine Px_a (i := 3) (by kernel_rfl) rfl (wtd0 rfl) ?_
  refine a_call rfl rfl rfl rfl (op14_ok _ o) (fun v w59 ⟨hv, hf⟩ => ?_)
  subst hv
  have st := st.keep0 hf
  have hF := hF.step0 hf
  have st : St X w59 [(_, Cl [_, _, _, _, _, _, _, _, _, _] _), (_, Cl [_, _, _] _), (_, Cl [_, _, _] _), (_, Cl [_, _] _), (_, Cl [_, _, _, _, _, _, _, _, _] _)] [_, _, _, _, _, _, _, _, _] := st
  refine ⟨(st.picks [0, 1, 2, 3] (by decide)).takeK 5, ?_⟩
  refine Px_a (i := 6) (by kernel_rfl) rfl (wtd0 rfl) ?_
  refine a_call rfl rfl rfl rfl (oprepare_ok (keys (hOf st) ++ X) _ st.Lo (to14_m s) Ar50 cr50 Ar51 cr51 Ar52 cr52 Ar53 cr53 (op14_m o) tag at_ (st.k (i := 5) rfl) (st.k (i := 6) rfl) (st.k (i := 7) rfl) (st.k (i := 8) rfl) (by rw [to14_eq]; omega) (by rw [to14_eq]; omega) (by rw [to14_eq]; omega) (by rw [to14_eq]; omega)) (fun v w60 ⟨Ar54, cr54, hv, hr54, hf⟩ => ?_)
  subst hv
  have st := st.keep0 hf
  have hF := hF.step0 hf
  have hlehr54 := Sld.le hr54
  have st := st.addK (kS Ar54 (((oprepare_m (to14_m s) (op14_m o) tag at_).1).tags).length cr54 3 ((((oprepare_m (to14_m s) (op14_m o) tag at_).1).tags).flatMap tagMC)) hr54
  have st : St X w60 [(_, Cl [_, _, _, _, _, _, _, _, _, _] _), (_, Cl [_, _, _] _), (_, Cl [_, _, _] _), (_, Cl [_, _] _), (_, Cl [_, _, _, _, _, _, _, _, _] _)] [_, _, _, _, _, _, _, _, _, _] := st
  refine ⟨(st.picks [0, 1, 2, 3] (by decide)).takeK 5, ?_⟩
  refine Px_y (i := 7) rfl (by kernel_rfl) (wtd0 rfl) rfl rfl (y_move rfl rfl) ?_
  refine Px_y (i := 8) rfl (by kernel_rfl) (wtd0 rfl) rfl rfl (y_ext rfl rfl rfl) ?_
  refine Px_y (i := 9) rfl (by kernel_rfl) (wtd0 rfl) rfl rfl (y_ext rfl rfl rfl) ?_
  refine Px_a (i := 11) (by kernel_rfl) rfl (wtd0 rfl) ?_
  refine a_storew (i := 4) rfl rfl rfl rfl Ty.sz_47 rfl (by first | assumption | (simp [Value.oneCell']; done)) st.hp rfl rfl (fun w61 (hp : Hp w61 [(_, Cl [_, _, _, _, _, _, _, _, _, _] _), (_, Cl [_, _, _] _), (_, Cl [_, _, _] _), (_, Cl [_, _] _), (_, Cl [_, _, _, _, _, _, _, _, _] _)]) hf _ => ?_)
  have st : St X w61 [(_, Cl [_, _, _, _, _, _, _, _, _, _] _), (_, Cl [_, _, _] _), (_, Cl [_, _, _] _), (_, Cl [_, _] _), (_, Cl [_, _, _, _, _, _, _, _, _] _)] [_, _, _, _, _, _, _, _, _, _] := st.set (i := 4) rfl hp hf
  have hF := hF.step hf (by intro y hy; simp only [List.mem_cons, List.not_mem_nil, or_false] at hy; subst hy; first | (exact Or.inr (by omega)) | (exact Or.inl (kin0 _ _)) | (exact Or.inl (by simp)))
  refine ⟨(st.picks [0, 1, 2, 3] (by decide)).takeK 5, ?_⟩
  refine Px_y (i := 12) rfl (by kernel_rfl) (wtd0 rfl) rfl rfl (y_assign rfl rfl) ?_
  refine Px_done (by kernel_rfl) (Th_n (hK6 _ _ ?_))
  refine Wp_seq fun K19 hK19 => ?_
  refine Wp_region (Ls_y (wtd0 rfl) rfl rfl (y_loadw (i := 0) rfl rfl Ty.ag_37 (fun _ e => e ▸ st.hp) rfl rfl) ?_)
  refine Ls_y (wtd0 rfl) rfl rfl (y_loadw (i := 1) rfl rfl Ty.ag_39 (fun _ e => e ▸ st.hp) rfl rfl) ?_
  refine Ls_y (wtd0 rfl) rfl rfl (y_loadw (i := 2) rfl rfl Ty.ag_43 (fun _ e => e ▸ st.hp) rfl rfl) ?_
  refine Ls_y (wtd0 rfl) rfl rfl (y_loadw (i := 3) rfl rfl Ty.ag_24 (fun _ e => e ▸ st.hp) rfl rfl) ?_
  refine Ls_a (wtd0 rfl) ?_
  refine a_call rfl rfl rfl rfl (r14prepare_ok (keys (hOf st) ++ X) _ st.Lo s A_s_setF_adds c_s_setF_adds A_s_setF_gone c_s_setF_gone A_s_map_puts c_s_map_puts A_s_map_gone c_s_map_gone o tag at_ (st.k (i := 0) rfl) (st.k (i := 1) rfl) (st.k (i := 2) rfl) (st.k (i := 3) rfl) (by omega) (by omega)) (fun v w62 ⟨Ar55, cr55, hv, hr55, hf⟩ => ?_)
  subst hv
  have st := st.keep0 hf
  have hF := hF.step0 hf
  have hlehr55 := Sld.le hr55
  have st := st.addK (kS Ar55 (((r14prepare_m s o tag at_).1).tags).length cr55 3 ((((r14prepare_m s o tag at_).1).tags).flatMap tagMC)) hr55
  have st : St X w62 [(_, Cl [_, _, _, _, _, _, _, _, _, _] _), (_, Cl [_, _, _] _), (_, Cl [_, _, _] _), (_, Cl [_, _] _), (_, Cl [_, _, _, _, _, _, _, _, _] _)] [_, _, _, _, _, _, _, _, _, _, _] := st
  refine Lmv rfl rfl rfl rfl rfl (Lex rfl rfl rfl rfl rfl rfl (Lex rfl rfl rfl rfl rfl rfl (Ls_a (wtd0 rfl) ?_)))
  refine a_alloc rfl rfl rfl Ty.zc_46 st.hp (fun g18 w63 (hp : Hp w63 [(_, Cl [_, _, _, _, _, _, _, _, _, _] _), (_, Cl [_, _, _] _), (_, Cl [_, _, _] _), (_, Cl [_, _] _), (_, Cl [_, _, _, _, _, _, _, _, _] _), (_, Cl [_, _, _, _, _, _, _, _, _] _)]) hf hg18 => ?_)
  have st : St X w63 [(_, Cl [_, _, _, _, _, _, _, _, _, _] _), (_, Cl [_, _, _] _), (_, Cl [_, _, _] _), (_, Cl [_, _] _), (_, Cl [_, _, _, _, _, _, _, _, _] _), (_, Cl [_, _, _, _, _, _, _, _, _] _)] [_, _, _, _, _, _, _, _, _, _, _] := st.push hp hf hg18
  have hg18 := Nat.le_trans hF.size hg18
  have hF := hF.step0 hf
  refine Ls_a (wtd0 rfl) ?_
  refine a_storew (i := 5) rfl rfl rfl rfl Ty.sz_46 rfl (by first | assumption | (simp [Value.oneCell']; done)) st.hp rfl rfl (fun w64 (hp : Hp w64 [(_, Cl [_, _, _, _, _, _, _, _, _, _] _), (_, Cl [_, _, _] _), (_, Cl [_, _, _] _), (_, Cl [_, _] _), (_, Cl [_, _, _, _, _, _, _, _, _] _), (_, Cl [_, _, _, _, _, _, _, _, _] _)]) hf _ => ?_)
  have st : St X w64 [(_, Cl [_, _, _, _, _, _, _, _, _, _] _), (_, Cl [_, _, _] _), (_, Cl [_, _, _] _), (_, Cl [_, _] _), (_, Cl [_, _, _, _, _, _, _, _, _] _), (_, Cl [_, _, _, _, _, _, _, _, _] _)] [_, _, _, _, _, _, _, _, _, _, _] := st.set (i := 5) rfl hp hf
  have hF := hF.step hf (by intro y hy; simp only [List.mem_cons, List.not_mem_nil, or_false] at hy; subst hy; first | (exact Or.inr (by omega)) | (exact Or.inl (kin0 _ _)) | (exact Or.inl (by simp)))
  refine Las rfl rfl rfl rfl rfl (Ls_nil (Th_n (hK19 _ _ ?_)))
  refine Wp_seq fun K20 hK20 => ?_
  refine Wp_region (Ls_y (wtd0 rfl) rfl rfl (y_fld rfl rfl Ty.fo_37_0) (Ls_y (wtd0 rfl) rfl rfl (y_load (i := 0) rfl rfl Ty.pl_3 (fun _ e => e ▸ st.hp) rfl rfl) ?_))
  refine Ls_a (wtd0 rfl) ?_
  refine a_call rfl rfl rfl rfl (onew_ok (keys (hOf st) ++ X) _ st.Lo s.kind) (fun v w65 ⟨Ar56, cr56, Ar57, cr57, Ar58, cr58, Ar59, cr59, hv, hr56, hr57, hr58, hr59, hf⟩ => ?_)
  subst hv
  have st := st.keep0 hf
  have hF := hF.step0 hf
  have hlehr56 := Sld.le hr56
  have st := st.addK (kS Ar56 ((((onew_m s.kind).1).setF).adds).length cr56 4 (((((onew_m s.kind).1).setF).adds).flatMap addMC)) hr56
  have hlehr57 := Sld.le hr57
  have st := st.addK (kS Ar57 ((((onew_m s.kind).1).setF).gone).length cr57 3 (((((onew_m s.kind).1).setF).gone).flatMap tagMC)) hr57
  have hlehr58 := Sld.le hr58
  have st := st.addK (kS Ar58 ((((onew_m s.kind).1).map).puts).length cr58 7 (((((onew_m s.kind).1).map).puts).flatMap putMC)) hr58
  have hlehr59 := Sld.le hr59
  have st := st.addK (kS Ar59 ((((onew_m s.kind).1).map).gone).length cr59 3 (((((onew_m s.kind).1).map).gone).flatMap tagMC)) hr59
  have st : St X w65 [(_, Cl [_, _, _, _, _, _, _, _, _, _] _), (_, Cl [_, _, _] _), (_, Cl [_, _, _] _), (_, Cl [_, _] _), (_, Cl [_, _, _, _, _, _, _, _, _] _), (_, Cl [_, _, _, _, _, _, _, _, _] _)] [_, _, _, _, _, _, _, _, _, _, _, _, _, _, _] := st
  refine Lmv rfl rfl rfl rfl rfl (Lex rfl rfl rfl rfl rfl rfl (Lex rfl rfl rfl rfl rfl rfl (Ls_a (wtd0 rfl) ?_)))
  refine a_alloc rfl rfl rfl Ty.zc_60 st.hp (fun g19 w66 (hp : Hp w66 [(_, Cl [_, _, _, _, _, _, _, _, _, _] _), (_, Cl [_, _, _] _), (_, Cl [_, _, _] _), (_, Cl [_, _] _), (_, Cl [_, _, _, _, _, _, _, _, _] _), (_, Cl [_, _, _, _, _, _, _, _, _] _), (_, Cl [_, _, _, _, _, _, _, _, _, _] _)]) hf hg19 => ?_)
  have st : St X w66 [(_, Cl [_, _, _, _, _, _, _, _, _, _] _), (_, Cl [_, _, _] _), (_, Cl [_, _, _] _), (_, Cl [_, _] _), (_, Cl [_, _, _, _, _, _, _, _, _] _), (_, Cl [_, _, _, _, _, _, _, _, _] _), (_, Cl [_, _, _, _, _, _, _, _, _, _] _)] [_, _, _, _, _, _, _, _, _, _, _, _, _, _, _] := st.push hp hf hg19
  have hg19 := Nat.le_trans hF.size hg19
  have hF := hF.step0 hf
  refine Ls_a (wtd0 rfl) ?_
  refine a_storew (i := 6) rfl rfl rfl rfl Ty.sz_60 rfl (by first | assumption | (simp [Value.oneCell']; done)) st.hp rfl rfl (fun w67 (hp : Hp w67 [(_, Cl [_, _, _, _, _, _, _, _, _, _] _), (_, Cl [_, _, _] _), (_, Cl [_, _, _] _), (_, Cl [_, _] _), (_, Cl [_, _, _, _, _, _, _, _, _] _), (_, Cl [_, _, _, _, _, _, _, _, _] _), (_, Cl [_, _, _, _, _, _, _, _, _, _] _)]) hf _ => ?_)
  have st : St X w67 [(_, Cl [_, _, _, _, _, _, _, _, _, _] _), (_, Cl [_, _, _] _), (_, Cl [_, _, _] _), (_, Cl [_, _] _), (_, Cl [_, _, _, _, _, _, _, _, _] _), (_, Cl [_, _, _, _, _, _, _, _, _] _), (_, Cl [_, _, _, _, _, _, _, _, _, _] _)] [_, _, _, _, _, _, _, _, _, _, _, _, _, _, _] := st.set (i := 6) rfl hp hf
  have hF := hF.step hf (by intro y hy; simp only [List.mem_cons, List.not_mem_nil, or_false] at hy; subst hy; first | (exact Or.inr (by omega)) | (exact Or.inl (kin0 _ _)) | (exact Or.inl (by simp)))
  refine Las rfl rfl rfl rfl rfl (Ls_nil (Th_n (hK20 _ _ ?_)))
  refine Wp_seq fun K21 hK21 => ?_
  refine Wp_region (Ls_y (wtd0 rfl) rfl rfl (y_fld rfl rfl Ty.fo_37_0) (Ls_y (wtd0 rfl) rfl rfl (y_load (i := 0) rfl rfl Ty.pl_3 (fun _ e => e ▸ st.hp) rfl rfl) ?_))
  refine Ls_a (wtd0 rfl) ?_
  refine a_call rfl rfl rfl rfl (r14new_ok (keys (hOf st) ++ X) _ st.Lo s.kind) (fun v w68 ⟨Ar60, cr60, Ar61, cr61, Ar62, cr62, Ar63, cr63, hv, hr60, hr61, hr62, hr63, hf⟩ => ?_)
  subst hv
  have st := st.keep0 hf
  have hF := hF.step0 hf
  have hlehr60 := Sld.le hr60
  have st := st.addK (kS Ar60 ((((r14new_m s.kind).1).setF).adds).length cr60 4 (((((r14new_m s.kind).1).setF).adds).flatMap addMC)) hr60
  have hlehr61 := Sld.le hr61
  have st := st.addK (kS Ar61 ((((r14new_m s.kind).1).setF).gone).length cr61 3 (((((r14new_m s.kind).1).setF).gone).flatMap tagMC)) hr61
  have hlehr62 := Sld.le hr62
  have st := st.addK (kS Ar62 ((((r14new_m s.kind).1).map).puts).length cr62 7 (((((r14new_m s.kind).1).map).puts).flatMap putMC)) hr62
  have hlehr63 := Sld.le hr63
  have st := st.addK (kS Ar63 ((((r14new_m s.kind).1).map).gone).length cr63 3 (((((r14new_m s.kind).1).map).gone).flatMap tagMC)) hr63
  have st : St X w68 [(_, Cl [_, _, _, _, _, _, _, _, _, _] _), (_, Cl [_, _, _] _), (_, Cl [_, _, _] _), (_, Cl [_, _] _), (_, Cl [_, _, _, _, _, _, _, _, _] _), (_, Cl [_, _, _, _, _, _, _, _, _] _), (_, Cl [_, _, _, _, _, _, _, _, _, _] _)] [_, _, _, _, _, _, _, _, _, _, _, _, _, _, _, _, _, _, _] := st
  refine Lmv rfl rfl rfl rfl rfl (Lex rfl rfl rfl rfl rfl rfl (Lex rfl rfl rfl rfl rfl rfl (Ls_a (wtd0 rfl) ?_)))
  refine a_alloc rfl rfl rfl Ty.zc_37 st.hp (fun g20 w69 (hp : Hp w69 [(_, Cl [_, _, _, _, _, _, _, _, _, _] _), (_, Cl [_, _, _] _), (_, Cl [_, _, _] _), (_, Cl [_, _] _), (_, Cl [_, _, _, _, _, _, _, _, _] _), (_, Cl [_, _, _, _, _, _, _, _, _] _), (_, Cl [_, _, _, _, _, _, _, _, _, _] _), (_, Cl [_, _, _, _, _, _, _, _, _, _] _)]) hf hg20 => ?_)
  have st : St X w69 [(_, Cl [_, _, _, _, _, _, _, _, _, _] _), (_, Cl [_, _, _] _), (_, Cl [_, _, _] _), (_, Cl [_, _] _), (_, Cl [_, _, _, _, _, _, _, _, _] _), (_, Cl [_, _, _, _, _, _, _, _, _] _), (_, Cl [_, _, _, _, _, _, _, _, _, _] _), (_, Cl [_, _, _, _, _, _, _, _, _, _] _)] [_, _, _, _, _, _, _, _, _, _, _, _, _, _, _, _, _, _, _] := st.push hp hf hg20
  have hg20 := Nat.le_trans hF.size hg20
  have hF := hF.step0 hf
  refine Ls_a (wtd0 rfl) ?_
  refine a_storew (i := 7) rfl rfl rfl rfl Ty.sz_37 rfl (by first | assumption | (simp [Value.oneCell']; done)) st.hp rfl rfl (fun w70 (hp : Hp w70 [(_, Cl [_, _, _, _, _, _, _, _, _, _] _), (_, Cl [_, _, _] _), (_, Cl [_, _, _] _), (_, Cl [_, _] _), (_, Cl [_, _, _, _, _, _, _, _, _] _), (_, Cl [_, _, _, _, _, _, _, _, _] _), (_, Cl [_, _, _, _, _, _, _, _, _, _] _), (_, Cl [_, _, _, _, _, _, _, _, _, _] _)]) hf _ => ?_)
  have st : St X w70 [(_, Cl [_, _, _, _, _, _, _, _, _, _] _), (_, Cl [_, _, _] _), (_, Cl [_, _, _] _), (_, Cl [_, _] _), (_, Cl [_, _, _, _, _, _, _, _, _] _), (_, Cl [_, _, _, _, _, _, _, _, _] _), (_, Cl [_, _, _, _, _, _, _, _, _, _] _), (_, Cl [_, _, _, _, _, _, _, _, _, _] _)] [_, _, _, _, _, _, _, _, _, _, _, _, _, _, _, _, _, _, _] := st.set (i := 7) rfl hp hf
  have hF := hF.step hf (by intro y hy; simp only [List.mem_cons, List.not_mem_nil, or_false] at hy; subst hy; first | (exact Or.inr (by omega)) | (exact Or.inl (kin0 _ _)) | (exact Or.inl (by simp)))
  refine Las rfl rfl rfl rfl rfl (Ls_nil (Th_n (hK21 _ _ ?_)))
  refine Wp_seq fun K22 hK22 => ?_
  refine Wp_plan (fun W => St X W (pickL (hOf st) [0, 1, 2, 3, 4, 5, 6, 7]) (kOf st)) [(true, 0), (true, 2), (false, 1), (false, 3), (true, 4), (true, 5), (true, 6), (true, 7), (true, 8), (true, 9), (true, 10), (true, 12), (false, 11), (false, 13), (true, 14), (true, 15), (true, 16), (true, 17), (true, 18), (true, 19), (true, 20)] Ty.mx_0 (by kernel_rfl) (by kernel_rfl) rfl ((st.picks [0, 1, 2, 3, 4, 5, 6, 7] (by decide)).drew) ?_
  have st := st.drew
  have hF := hF.step0 (Fr.drew _)
  refine Pl_y rfl (wtd0 rfl) rfl rfl (y_loadw (i := 4) rfl rfl Ty.ag_47 (fun _ h => h.hp) rfl rfl) ?_
  refine Pl_y rfl (wtd0 rfl) rfl rfl (y_loadw (i := 5) rfl rfl Ty.ag_46 (fun _ h => h.hp) rfl rfl) ?_
  refine Pl_a rfl (wtd0 rfl) (by rfl) ?_
  refine a_call rfl rfl rfl rfl (fromEff_ok (keys (hOf st) ++ X) _ st.Lo ((oprepare_m (to14_m s) (op14_m o) tag at_).1) Ar54 cr54 (st.k (i := 9) rfl)) (fun v w71 ⟨Ar64, cr64, hv, hr64, hf⟩ => ?_)
  subst hv
  have st := st.keep0 hf
  have hF := hF.step0 hf
  have hlehr64 := Sld.le hr64
  have st := st.addK (kS Ar64 ((fromEff_m ((oprepare_m (to14_m s) (op14_m o) tag at_).1)).tags).length cr64 3 (((fromEff_m ((oprepare_m (to14_m s) (op14_m o) tag at_).1)).tags).flatMap tagMC)) hr64
  have st : St X w71 [(_, Cl [_, _, _, _, _, _, _, _, _, _] _), (_, Cl [_, _, _] _), (_, Cl [_, _, _] _), (_, Cl [_, _] _), (_, Cl [_, _, _, _, _, _, _, _, _] _), (_, Cl [_, _, _, _, _, _, _, _, _] _), (_, Cl [_, _, _, _, _, _, _, _, _, _] _), (_, Cl [_, _, _, _, _, _, _, _, _, _] _)] [_, _, _, _, _, _, _, _, _, _, _, _, _, _, _, _, _, _, _, _] := st
  refine ⟨(st.picks [0, 1, 2, 3, 4, 5, 6, 7] (by decide)).takeK 19, ?_⟩
  refine Pl_a rfl (wtd0 rfl) (by rfl) ?_
  refine a_call rfl rfl rfl rfl (sameEffect_ok (keys (hOf st) ++ X) _ st.Lo (fromEff_m ((oprepare_m (to14_m s) (op14_m o) tag at_).1)) Ar64 cr64 ((r14prepare_m s o tag at_).1) Ar55 cr55 (st.k (i := 19) rfl) (st.k (i := 10) rfl)) (fun v w72 ⟨hv, hf⟩ => ?_)
  subst hv
  have st := st.keep0 hf
  have hF := hF.step0 hf
  have st : St X w72 [(_, Cl [_, _, _, _, _, _, _, _, _, _] _), (_, Cl [_, _, _] _), (_, Cl [_, _, _] _), (_, Cl [_, _] _), (_, Cl [_, _, _, _, _, _, _, _, _] _), (_, Cl [_, _, _, _, _, _, _, _, _] _), (_, Cl [_, _, _, _, _, _, _, _, _, _] _), (_, Cl [_, _, _, _, _, _, _, _, _, _] _)] [_, _, _, _, _, _, _, _, _, _, _, _, _, _, _, _, _, _, _, _] := st
  refine ⟨(st.picks [0, 1, 2, 3, 4, 5, 6, 7] (by decide)).takeK 19, ?_⟩
  refine Pmv rfl rfl rfl rfl rfl rfl ?_
  have hd10 : (sameEffect_m (fromEff_m ((oprepare_m (to14_m s) (op14_m o) tag at_).1)) ((r14prepare_m s o tag at_).1)) = true := by
    rw [hprep]; exact sameEffect_refl _
  refine Pl_bool 60 rfl (fun _ => ?_) (fun hc12 => absurd hc12 (by first | (simp [hd10]; done) | (rw [hd10]; simp; done) | simpa using hd10))
  refine Pl_y rfl (wtdT rfl rfl rfl) rfl rfl (y_move rfl rfl) (Pl_y rfl (wtdT rfl rfl rfl) rfl rfl (y_move rfl rfl) (Pl_y rfl (wtdT rfl rfl rfl) rfl rfl (y_eq rfl rfl rfl) (Pl_y rfl (wtd0 rfl) rfl rfl (y_pick_t rfl rfl rfl) (Pmv rfl rfl rfl rfl rfl rfl ?_))))
  have hd11 : ((oprepare_m (to14_m s) (op14_m o) tag at_).2) = ((r14prepare_m s o tag at_).2) := by
    rw [hprep]
  refine Pl_bool 65 rfl (fun _ => ?_) (fun hc13 => absurd hc13 (by first | (simp [hd11]; done) | (rw [hd11]; simp; done) | simpa using hd11))
  refine Pl_y rfl (wtdT rfl rfl rfl) rfl rfl (y_loadw (i := 6) rfl rfl Ty.ag_60 (fun _ h => h.hp) rfl rfl) ?_
  refine Pl_y rfl (wtdT rfl rfl rfl) rfl rfl (y_loadw (i := 7) rfl rfl Ty.ag_37 (fun _ h => h.hp) rfl rfl) ?_
  refine Pl_a rfl (wtdT rfl rfl rfl) (by rfl) ?_
  refine a_call rfl rfl rfl rfl (from14_ok (keys (hOf st) ++ X) _ st.Lo ((onew_m s.kind).1) Ar56 cr56 Ar57 cr57 Ar58 cr58 Ar59 cr59 (st.k (i := 11) rfl) (st.k (i := 12) rfl) (st.k (i := 13) rfl) (st.k (i := 14) rfl) (by simp [em1]) (by simp [em2]) (by simp [em3]) (by simp [em4])) (fun v w73 ⟨Ar65, cr65, Ar66, cr66, Ar67, cr67, Ar68, cr68, hv, hr65, hr66, hr67, hr68, hf⟩ => ?_)
  subst hv
  have st := st.keep0 hf
  have hF := hF.step0 hf
  have hlehr65 := Sld.le hr65
  have st := st.addK (kS Ar65 (((from14_m ((onew_m s.kind).1)).setF).adds).length cr65 4 ((((from14_m ((onew_m s.kind).1)).setF).adds).flatMap addMC)) hr65
  have hlehr66 := Sld.le hr66
  have st := st.addK (kS Ar66 (((from14_m ((onew_m s.kind).1)).setF).gone).length cr66 3 ((((from14_m ((onew_m s.kind).1)).setF).gone).flatMap tagMC)) hr66
  have hlehr67 := Sld.le hr67
  have st := st.addK (kS Ar67 (((from14_m ((onew_m s.kind).1)).map).puts).length cr67 7 ((((from14_m ((onew_m s.kind).1)).map).puts).flatMap putMC)) hr67
  have hlehr68 := Sld.le hr68
  have st := st.addK (kS Ar68 (((from14_m ((onew_m s.kind).1)).map).gone).length cr68 3 ((((from14_m ((onew_m s.kind).1)).map).gone).flatMap tagMC)) hr68
  have st : St X w73 [(_, Cl [_, _, _, _, _, _, _, _, _, _] _), (_, Cl [_, _, _] _), (_, Cl [_, _, _] _), (_, Cl [_, _] _), (_, Cl [_, _, _, _, _, _, _, _, _] _), (_, Cl [_, _, _, _, _, _, _, _, _] _), (_, Cl [_, _, _, _, _, _, _, _, _, _] _), (_, Cl [_, _, _, _, _, _, _, _, _, _] _)] [_, _, _, _, _, _, _, _, _, _, _, _, _, _, _, _, _, _, _, _, _, _, _, _] := st
  refine ⟨(st.picks [0, 1, 2, 3, 4, 5, 6, 7] (by decide)).takeK 19, ?_⟩
  refine Pl_a rfl (wtdT rfl rfl rfl) (by rfl) ?_
  refine a_call rfl rfl rfl rfl (r14same_ok (keys (hOf st) ++ X) _ st.Lo (from14_m ((onew_m s.kind).1)) Ar65 cr65 Ar66 cr66 Ar67 cr67 Ar68 cr68 ((r14new_m s.kind).1) Ar60 cr60 Ar61 cr61 Ar62 cr62 Ar63 cr63 (st.k (i := 20) rfl) (st.k (i := 21) rfl) (st.k (i := 22) rfl) (st.k (i := 23) rfl) (st.k (i := 15) rfl) (st.k (i := 16) rfl) (st.k (i := 17) rfl) (st.k (i := 18) rfl)) (fun v w74 ⟨hv, hf⟩ => ?_)
  subst hv
  have st := st.keep0 hf
  have hF := hF.step0 hf
  have st : St X w74 [(_, Cl [_, _, _, _, _, _, _, _, _, _] _), (_, Cl [_, _, _] _), (_, Cl [_, _, _] _), (_, Cl [_, _] _), (_, Cl [_, _, _, _, _, _, _, _, _] _), (_, Cl [_, _, _, _, _, _, _, _, _] _), (_, Cl [_, _, _, _, _, _, _, _, _, _] _), (_, Cl [_, _, _, _, _, _, _, _, _, _] _)] [_, _, _, _, _, _, _, _, _, _, _, _, _, _, _, _, _, _, _, _, _, _, _, _] := st
  refine ⟨(st.picks [0, 1, 2, 3, 4, 5, 6, 7] (by decide)).takeK 19, ?_⟩
  refine Pl_y rfl (wtd0 rfl) rfl rfl (y_pick_t rfl rfl rfl) (Pmv rfl rfl rfl rfl rfl rfl ?_)
  have hd12 : (r14same_m (from14_m ((onew_m s.kind).1)) ((r14new_m s.kind).1)) = true := by
    rw [from14_eq]; exact r14same_refl _
  refine Pl_bool 71 rfl (fun _ => ?_) (fun hc14 => absurd hc14 (by first | (simp [hd12]; done) | (rw [hd12]; simp; done) | simpa using hd12))
  refine Pl_y rfl (wtdT rfl rfl rfl) rfl rfl (y_move rfl rfl) (Pl_y rfl (wtdT rfl rfl rfl) rfl rfl (y_move rfl rfl) (Pl_y rfl (wtdT rfl rfl rfl) rfl rfl (y_eq rfl rfl rfl) (Pl_y rfl (wtd0 rfl) rfl rfl (y_pick_t rfl rfl rfl) (Pl_y rfl (wtd0 rfl) rfl rfl (y_assign rfl rfl) (Pl_nil (Th_n (hK22 _ _ ?_)))))))
  refine Wp_ret (Fq_ret (Res1 rfl rfl) ?_)
  have hres : (((onew_m s.kind).2) == ((r14new_m s.kind).2)) = true := by
    exact beq_iff_eq.2 rfl
  rw [hres]
  exact ⟨rfl, hF⟩

end Go.Proofs.Ytmajjdpioillaaa

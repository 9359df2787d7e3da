/- Walks printed by gen2.py out of our own specifications: what the functions named below do. -/
import Derived.Test.YtdgllcmlfblelaaGreatDoorSc
import Derived.Test.YtdgllcmlfblelaaGreatDoorB6
import Derived.Test.YtdgllcmlfblelaaGreatDoorSj
set_option linter.unusedSimpArgs false
set_option linter.unusedVariables false
namespace Go.Proofs.YtdgllcmlfblelaaGreatDoor
open Go.RowKit


/-- A reader's cells, where its error (if any) stands in block q. -/
def rdC (q : Option Nat) (t : RdM) : List Value := [sv t.s, .int .i64 t.a, errV 94 q]
def ftC (t : RdM) : List Value := [.int .i64 t.f.atF, .iface 45 (.int .i64 t.f.e)]
def rdH (g : Nat) (q : Option Nat) (t : RdM) : Heap := [(some g, Cl (rdC q t) 83), (q, Cl (ftC t) 98)]
def Eok (q : Option Nat) (t : RdM) : Prop := Rok t ∧ (q = none ↔ t.f.e = 0)
/-- The reader at g, which was t, is now t'. -/
def RdTo (g : Nat) (q : Option Nat) (t t' : RdM) (w w' : World) : Prop := ∃ q', Eok q' t' ∧ Mod w w' (rdH g q t) (rdH g q' t')
theorem RdTo.same {g : Nat} {q : Option Nat} {t : RdM} {w : World} (hk : Eok q t) (hp : Hp w (rdH g q t)) : RdTo g q t t w w := ⟨q, hk, Fr.refl _ _, hp, fun k hk => .inl hk⟩
theorem RdTo.drew {g : Nat} {q : Option Nat} {t t' : RdM} {w w' : World} (h : RdTo g q t t' w w') : RdTo g q t t' w w'.drew := by
  obtain ⟨q', hk, m⟩ := h
  exact ⟨q', hk, m.fr.step0 (Fr.drew _), m.hp.drew, m.nw⟩
theorem rdH_one {g : Nat} {t : RdM} {w : World} {o : Obj} (h : Hp w [(some g, o)]) (o' : Obj) : Hp w [(some g, o), (none, o')] := h.addNone o'
/-- A place that moves on. -/
theorem RdTo.at_ {g : Nat} {q : Option Nat} {t : RdM} {a : Int} {w w' : World} (hk : Eok q t) (hr : Rok ⟨t.s, a, t.f⟩) (hp : Hp w (rdH g q t)) (hp' : Hp w' [(some g, Cl (rdC q ⟨t.s, a, t.f⟩) 83)]) (hf : Fr [g] w w') : RdTo g q t ⟨t.s, a, t.f⟩ w w' := by
  refine ⟨q, ⟨hr, hk.2⟩, hf.mono (by simp [keys, rdH]), ?_, fun k hk => .inl hk⟩
  cases q with
  | none => exact hp'.addNone _
  | some q =>
    have h := hp.call [1] [0] (by decide) rfl (⟨hf, hp', fun k hk => .inl hk⟩ : Mod w w' [(some g, Cl (rdC (some q) t) 83)] _)
    exact h.picks [1, 0] (by decide)

set_option maxRecDepth 20000 in
theorem ofail_err (g : Nat) (t : RdM) (w : World) (q : Nat) (e : Int) (hp : Hp w [(some g, Cl (rdC (some q) t) 83)])  :
    Fn Tryz.prog 39 [.pointer (some ⟨g, 0, none⟩), .int .i64 e] w fun v w' => v = .tuple #[] ∧ w' = w := by
  refine Fn_of 25 Ty.en_39 Tryz.func39 rfl rfl rfl ?_
  dsimp only [argEnv]
  have hp : Hp w [(_, Cl [_, _, _] _)] := hp
  have hF := Fr.refl [] w
  refine Wp_seq fun K1 hK1 => ?_
  refine Wp_region ?_
  refine Ls_y (wtd0 rfl) rfl rfl (y_move rfl rfl) ?_
  refine Ls_y (wtd0 rfl) rfl rfl (y_nil rfl rfl) ?_
  refine Ls_y (wtd0 rfl) rfl rfl (y_fld rfl rfl Ty.fo_83_2) ?_
  refine Ls_y (wtd0 rfl) rfl rfl (y_load (i := 0) rfl rfl Ty.pl_65 (fun _ e => e ▸ hp) rfl rfl) ?_
  refine Ls_y (wtd0 rfl) rfl rfl (y_eqNil (b := false) rfl rfl Tryz.underlying65 (fun d w => run_eq_ifni Tryz.underlying65 d w) (fun w y => by cases y <;> rfl)) ?_
  refine Ls_y (wtd0 rfl) rfl rfl (y_move rfl rfl) ?_
  refine Ls_s (wtdF rfl rfl rfl) rfl rfl ?_
  refine Ls_s (wtdF rfl rfl rfl) rfl rfl ?_
  refine Ls_y (wtd0 rfl) rfl rfl (y_pick_f rfl rfl rfl) ?_
  refine Ls_nil (Th_n (hK1 _ _ ?_))
  refine Wp_cond_f rfl ?_
  refine Wp_skip (Fq_end (Res0 rfl) ?_)
  exact ⟨rfl, rfl⟩

set_option maxRecDepth 20000 in
theorem ofail_no (g : Nat) (t : RdM) (w : World)  (hp : Hp w [(some g, Cl (rdC none t) 83)])  :
    Fn Tryz.prog 39 [.pointer (some ⟨g, 0, none⟩), .int .i64 0] w fun v w' => v = .tuple #[] ∧ w' = w := by
  refine Fn_of 25 Ty.en_39 Tryz.func39 rfl rfl rfl ?_
  dsimp only [argEnv]
  have hp : Hp w [(_, Cl [_, _, _] _)] := hp
  have hF := Fr.refl [] w
  refine Wp_seq fun K1 hK1 => ?_
  refine Wp_region ?_
  refine Ls_y (wtd0 rfl) rfl rfl (y_move rfl rfl) ?_
  refine Ls_y (wtd0 rfl) rfl rfl (y_nil rfl rfl) ?_
  refine Ls_y (wtd0 rfl) rfl rfl (y_fld rfl rfl Ty.fo_83_2) ?_
  refine Ls_y (wtd0 rfl) rfl rfl (y_load (i := 0) rfl rfl Ty.pl_65 (fun _ e => e ▸ hp) rfl rfl) ?_
  refine Ls_y (wtd0 rfl) rfl rfl (y_eqNil (b := true) rfl rfl Tryz.underlying65 (fun d w => run_eq_nilii Tryz.underlying65 d w) (fun w y => by cases y <;> rfl)) ?_
  refine Ls_y (wtd0 rfl) rfl rfl (y_move rfl rfl) ?_
  refine Ls_y (wtdT rfl rfl rfl) rfl rfl (y_move rfl rfl) ?_
  refine Ls_y (wtdT rfl rfl rfl) rfl rfl (y_neF rfl rfl rfl (by omega)) ?_
  refine Ls_y (wtd0 rfl) rfl rfl (y_pick_t rfl rfl rfl) ?_
  refine Ls_nil (Th_n (hK1 _ _ ?_))
  refine Wp_cond_f rfl ?_
  refine Wp_skip (Fq_end (Res0 rfl) ?_)
  exact ⟨rfl, rfl⟩

set_option maxRecDepth 20000 in
theorem ofail_new (g : Nat) (t : RdM) (w : World) (e : Int) (hp : Hp w [(some g, Cl (rdC none t) 83)]) (he : ¬ e = 0) :
    Fn Tryz.prog 39 [.pointer (some ⟨g, 0, none⟩), .int .i64 e] w fun v w' => v = .tuple #[] ∧ ∃ q', Mod w w' [(some g, Cl (rdC none t) 83)] (rdH g (some q') ⟨t.s, t.a, ⟨t.a, e⟩⟩) := by
  refine Fn_of 25 Ty.en_39 Tryz.func39 rfl rfl rfl ?_
  dsimp only [argEnv]
  have hp : Hp w [(_, Cl [_, _, _] _)] := hp
  have hF := Fr.refl [g] w
  refine Wp_seq fun K1 hK1 => ?_
  refine Wp_region ?_
  refine Ls_y (wtd0 rfl) rfl rfl (y_move rfl rfl) ?_
  refine Ls_y (wtd0 rfl) rfl rfl (y_nil rfl rfl) ?_
  refine Ls_y (wtd0 rfl) rfl rfl (y_fld rfl rfl Ty.fo_83_2) ?_
  refine Ls_y (wtd0 rfl) rfl rfl (y_load (i := 0) rfl rfl Ty.pl_65 (fun _ e => e ▸ hp) rfl rfl) ?_
  refine Ls_y (wtd0 rfl) rfl rfl (y_eqNil (b := true) rfl rfl Tryz.underlying65 (fun d w => run_eq_nilii Tryz.underlying65 d w) (fun w y => by cases y <;> rfl)) ?_
  refine Ls_y (wtd0 rfl) rfl rfl (y_move rfl rfl) ?_
  refine Ls_y (wtdT rfl rfl rfl) rfl rfl (y_move rfl rfl) ?_
  refine Ls_y (wtdT rfl rfl rfl) rfl rfl (y_neT rfl rfl rfl (by omega)) ?_
  refine Ls_y (wtd0 rfl) rfl rfl (y_pick_t rfl rfl rfl) ?_
  refine Ls_nil (Th_n (hK1 _ _ ?_))
  refine Wp_cond_t rfl ?_
  refine Wp_region ?_
  refine Ls_y (wtd0 rfl) rfl rfl (y_move rfl rfl) ?_
  refine Ls_y (wtd0 rfl) rfl rfl (y_move rfl rfl) ?_
  refine Ls_y (wtd0 rfl) rfl rfl (y_nil rfl rfl) ?_
  refine Ls_y (wtd0 rfl) rfl rfl (y_fld rfl rfl Ty.fo_83_1) ?_
  refine Ls_y (wtd0 rfl) rfl rfl (y_load (i := 0) rfl rfl Ty.pl_3 (fun _ e => e ▸ hp) rfl rfl) ?_
  refine Ls_y (wtd0 rfl) rfl rfl (y_move rfl rfl) ?_
  refine Ls_y (wtd0 rfl) rfl rfl (y_mki rfl rfl (by kernel_rfl)) ?_
  refine Ls_y (wtd0 rfl) rfl rfl (y_build (cells := [_, _]) rfl rfl Ty.zc_98 Ty.ps_98 rfl) ?_
  refine Ls_a (wtd0 rfl) ?_
  refine a_box rfl rfl rfl rfl hp (fun g1 w1 (hp : Hp w1 [(_, Cl [_, _, _] _), (_, Cl [_, _] _)]) hf hg1 => ?_)
  have hg1 := Nat.le_trans hF.size hg1
  have hF := hF.step0 hf
  refine Ls_y (wtd0 rfl) rfl rfl (y_mki rfl rfl (by kernel_rfl)) ?_
  refine Ls_y (wtd0 rfl) rfl rfl (y_nil rfl rfl) ?_
  refine Ls_y (wtd0 rfl) rfl rfl (y_fld rfl rfl Ty.fo_83_2) ?_
  refine Ls_a (wtd0 rfl) ?_
  first
    | refine a_store (i := 0) rfl rfl rfl rfl rfl Ty.sz_65 rfl hp rfl (by first | decide | (simp; done) | (simp; omega)) (fun w2 (hp : Hp w2 [(_, Cl [_, _, _] _), (_, Cl [_, _] _)]) hf _ => ?_)
    | refine a_store (i := 1) rfl rfl rfl rfl rfl Ty.sz_65 rfl hp rfl (by first | decide | (simp; done) | (simp; omega)) (fun w2 (hp : Hp w2 [(_, Cl [_, _, _] _), (_, Cl [_, _] _)]) hf _ => ?_)
  have hF := hF.step hf (by intro y hy; simp only [List.mem_cons, List.not_mem_nil, or_false] at hy; subst hy; first | (exact Or.inr (by omega)) | (exact Or.inl (by simp)))
  refine Ls_nil (Fq_end (Res0 rfl) ?_)
  exact ⟨rfl, g1, hF, hp, fun k hk => by simp [keys, rdH] at hk ⊢; omega⟩

theorem ofail_ok (g : Nat) (q : Option Nat) (t : RdM) (e : Int) (w : World) (hk : Eok q t) (hp : Hp w (rdH g q t)) :
    Fn Tryz.prog 39 [.pointer (some ⟨g, 0, none⟩), .int .i64 e] w fun v w' => v = .tuple #[] ∧ RdTo g q t (rfail_m t e) w w' := by
  cases q with
  | some q =>
    have h0 : ¬ t.f.e = 0 := fun h => by have := hk.2.2 h; cases this
    have e1 : rfail_m t e = t := by unfold rfail_m; rw [if_neg (fun hc => h0 ((rfail_c1_iff t e).1 hc).1)]
    rw [e1]
    refine (ofail_err g t w q e (hp.picks [0] (by decide))).mono ?_
    rintro v w' ⟨rfl, rfl⟩
    exact ⟨rfl, RdTo.same hk hp⟩
  | none =>
    by_cases he : e = 0
    · subst he
      have e1 : rfail_m t 0 = t := by unfold rfail_m; rw [if_neg (fun hc => ((rfail_c1_iff t 0).1 hc).2 rfl)]
      rw [e1]
      refine (ofail_no g t w (hp.picks [0] (by decide))).mono ?_
      rintro v w' ⟨rfl, rfl⟩
      exact ⟨rfl, RdTo.same hk hp⟩
    · have hr := rfail_rok (e := e) hk.1
      rw [rfail_at (hk.2.1 rfl) he] at hr ⊢
      refine (ofail_new g t w e (hp.picks [0] (by decide)) he).mono ?_
      rintro v w' ⟨rfl, q', m⟩
      exact ⟨rfl, some q', ⟨hr, by simp [he]⟩, m.fr, m.hp, m.nw⟩

end Go.Proofs.YtdgllcmlfblelaaGreatDoor

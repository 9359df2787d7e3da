/- Walks printed by gen.py out of our own specifications: what the functions named below do. -/
import Derived.Test.YtikdpkhcegjmfaaW17
import Derived.Test.YtikdpkhcegjmfaaNt
set_option linter.unusedSimpArgs false
set_option linter.unusedVariables false
namespace Go.Proofs.Ytikdpkhcegjmfaa
open Go.RowKit


/-- Where a net lies: its struct; the row, its capacity and what lies behind it. -/
structure Np where
  g : Nat
  A : Option Addr
  c : Nat
  sp : List Value
def NpOk (p : Np) (T : Nt) : Prop := Ow p.A T.row.length p.c 3 (rowC T.row) p.sp
def ntH (p : Np) (T : Nt) : Heap := [(some p.g, Cl (ntC p.A p.c T) 115), (blkOf p.A, Cl (rowC T.row ++ p.sp) 51)]
theorem nt_mod {p : Np} {T T' : Nt} {w w' : World} (hq : Hp w' (ntH p T')) (hF : Fr [p.g] w w') : Mod w w' (ntH p T) (ntH p T') := ⟨hF.mono (by simp [ntH, keys]), hq, fun _ hk => .inl hk⟩

set_option maxRecDepth 20000 in
theorem nnode_ok (p : Np) (T : Nt) (w : World) (hp : Hp w (ntH p T)) (hT : NtOk T) (k : Int) :
    Fn Try.prog 72 [.pointer (some ⟨p.g, 0, none⟩), .int .i64 k] w fun v w' => v = .bool (nodeB T k) ∧ w' = w := by
  refine Fn_of 15 Ty.en_72 Try.func72 rfl rfl rfl ?_
  dsimp only [argEnv]
  have hp : Hp w [_, _] := hp
  have hF := Fr.refl [] w
  refine Wp_seq fun K1 hK1 => ?_
  refine Wp_region ?_
  refine Ls_y (wtd0 rfl) rfl rfl (y_assign rfl rfl) ?_
  refine Ls_nil (Th_n (hK1 _ _ ?_))
  refine Wp_seq fun K2 hK2 => ?_
  refine Wp_region ?_
  refine Ls_y (wtd0 rfl) rfl rfl (y_move rfl rfl) ?_
  refine Ls_y (wtd0 rfl) rfl rfl (y_ge rfl rfl rfl) ?_
  refine Ls_bool 6 rfl (fun hc1 => ?_) (fun hc1 => ?_)
  all_goals try simp only [decide_eq_true_eq, decide_eq_false_iff_not, beq_iff_eq, bne_iff_ne, ne_eq, beq_eq_false_iff_ne, bne_eq_false_iff_eq, Bool.not_eq_true, Bool.not_eq_false] at hc1
  · refine Ls_y (wtd0 rfl) rfl rfl (y_move rfl rfl) ?_
    refine Ls_y (wtdT rfl rfl rfl) rfl rfl (y_move rfl rfl) ?_
    refine Ls_y (wtdT rfl rfl rfl) rfl rfl (y_move rfl rfl) ?_
    refine Ls_y (wtdT rfl rfl rfl) rfl rfl (y_nil rfl rfl) ?_
    refine Ls_y (wtdT rfl rfl rfl) rfl rfl (y_fld rfl rfl Ty.fo_115_0) ?_
    first
      | refine Ls_y (wtdT rfl rfl rfl) rfl rfl (y_load (i := 0) rfl rfl Ty.pl_3 (fun _ e => e ▸ hp) rfl rfl) ?_
      | refine Ls_y (wtdT rfl rfl rfl) rfl rfl (y_load (i := 1) rfl rfl Ty.pl_3 (fun _ e => e ▸ hp) rfl rfl) ?_
    refine Ls_y (wtdT rfl rfl rfl) rfl rfl (y_lt rfl rfl rfl) ?_
    refine Ls_bool 13 rfl (fun hc2 => ?_) (fun hc2 => ?_)
    all_goals try simp only [decide_eq_true_eq, decide_eq_false_iff_not, beq_iff_eq, bne_iff_ne, ne_eq, beq_eq_false_iff_ne, bne_eq_false_iff_eq, Bool.not_eq_true, Bool.not_eq_false] at hc2
    · refine Ls_y (wtd0 rfl) rfl rfl (y_pick_t rfl rfl rfl) ?_
      refine Ls_y (wtd0 rfl) rfl rfl (y_assign rfl rfl) ?_
      refine Ls_nil (Th_n (hK2 _ _ ?_))
      refine Wp_ret (Fq_ret (Res1 rfl rfl) ?_)
      exact ⟨by simp [nodeB]; omega, rfl⟩
    · refine Ls_y (wtd0 rfl) rfl rfl (y_pick_t rfl rfl rfl) ?_
      refine Ls_y (wtd0 rfl) rfl rfl (y_assign rfl rfl) ?_
      refine Ls_nil (Th_n (hK2 _ _ ?_))
      refine Wp_ret (Fq_ret (Res1 rfl rfl) ?_)
      exact ⟨by simp [nodeB]; omega, rfl⟩
  · refine Ls_y (wtd0 rfl) rfl rfl (y_move rfl rfl) ?_
    refine Ls_s (wtdF rfl rfl rfl) rfl rfl ?_
    refine Ls_s (wtdF rfl rfl rfl) rfl rfl ?_
    refine Ls_s (wtdF rfl rfl rfl) rfl rfl ?_
    refine Ls_s (wtdF rfl rfl rfl) rfl rfl ?_
    refine Ls_s (wtdF rfl rfl rfl) rfl rfl ?_
    refine Ls_s (wtdF rfl rfl rfl) rfl rfl ?_
    refine Ls_y (wtd0 rfl) rfl rfl (y_pick_f rfl rfl rfl) ?_
    refine Ls_y (wtd0 rfl) rfl rfl (y_assign rfl rfl) ?_
    refine Ls_nil (Th_n (hK2 _ _ ?_))
    refine Wp_ret (Fq_ret (Res1 rfl rfl) ?_)
    exact ⟨by simp [nodeB]; omega, rfl⟩

set_option maxRecDepth 20000 in
theorem nlen_ok (p : Np) (T : Nt) (w : World) (hp : Hp w (ntH p T)) (hT : NtOk T)  :
    Fn Try.prog 34 [.pointer (some ⟨p.g, 0, none⟩)] w fun v w' => v = .int .i64 (T.row.length : Int) ∧ w' = w := by
  refine Fn_of 8 Ty.en_34 Try.func34 rfl rfl rfl ?_
  dsimp only [argEnv]
  have hp : Hp w [_, _] := hp
  have hF := Fr.refl [] w
  refine Wp_seq fun K1 hK1 => ?_
  refine Wp_region ?_
  refine Ls_y (wtd0 rfl) rfl rfl (y_assign rfl rfl) ?_
  refine Ls_nil (Th_n (hK1 _ _ ?_))
  refine Wp_seq fun K2 hK2 => ?_
  refine Wp_region ?_
  refine Ls_y (wtd0 rfl) rfl rfl (y_move rfl rfl) ?_
  refine Ls_y (wtd0 rfl) rfl rfl (y_nil rfl rfl) ?_
  refine Ls_y (wtd0 rfl) rfl rfl (y_fld rfl rfl Ty.fo_115_2) ?_
  refine Ls_y (wtd0 rfl) rfl rfl (y_load (i := 0) rfl rfl Ty.pl_113 (fun _ e => e ▸ hp) rfl (nt_row hT _ _)) ?_
  refine Ls_y (wtd0 rfl) rfl rfl (y_lenl rfl rfl Try.underlying113) ?_
  refine Ls_y (wtd0 rfl) rfl rfl (y_assign rfl rfl) ?_
  refine Ls_nil (Th_n (hK2 _ _ ?_))
  refine Wp_ret (Fq_ret (Res1 rfl rfl) ?_)
  exact ⟨rfl, rfl⟩

set_option maxRecDepth 20000 in
theorem nlost_ok (p : Np) (T : Nt) (w : World) (hp : Hp w (ntH p T)) (hT : NtOk T)  :
    Fn Try.prog 35 [.pointer (some ⟨p.g, 0, none⟩)] w fun v w' => v = .int .i64 T.lost ∧ w' = w := by
  refine Fn_of 7 Ty.en_35 Try.func35 rfl rfl rfl ?_
  dsimp only [argEnv]
  have hp : Hp w [_, _] := hp
  have hF := Fr.refl [] w
  refine Wp_seq fun K1 hK1 => ?_
  refine Wp_region ?_
  refine Ls_y (wtd0 rfl) rfl rfl (y_assign rfl rfl) ?_
  refine Ls_nil (Th_n (hK1 _ _ ?_))
  refine Wp_seq fun K2 hK2 => ?_
  refine Wp_region ?_
  refine Ls_y (wtd0 rfl) rfl rfl (y_move rfl rfl) ?_
  refine Ls_y (wtd0 rfl) rfl rfl (y_nil rfl rfl) ?_
  refine Ls_y (wtd0 rfl) rfl rfl (y_fld rfl rfl Ty.fo_115_3) ?_
  refine Ls_y (wtd0 rfl) rfl rfl (y_load (i := 0) rfl rfl Ty.pl_3 (fun _ e => e ▸ hp) rfl (nt_lost hT _ _)) ?_
  refine Ls_y (wtd0 rfl) rfl rfl (y_assign rfl rfl) ?_
  refine Ls_nil (Th_n (hK2 _ _ ?_))
  refine Wp_ret (Fq_ret (Res1 rfl rfl) ?_)
  exact ⟨rfl, rfl⟩

set_option maxRecDepth 20000 in
theorem nlose_ok (p : Np) (T : Nt) (w : World) (hp : Hp w (ntH p T)) (hT : NtOk T) (e : Int) (hl : T.lost ≤ 1000000) :
    Fn Try.prog 73 [.pointer (some ⟨p.g, 0, none⟩), .int .i64 e] w fun v w' => v = .int .i64 e ∧ Mod w w' (ntH p T) (ntH p { T with lost := T.lost + 1 }) := by
  refine Fn_of 13 Ty.en_73 Try.func73 rfl rfl rfl ?_
  dsimp only [argEnv]
  have hp : Hp w [_, _] := hp
  have hF := Fr.refl [p.g] w
  have h0 := hT.l0
  refine Wp_seq fun K1 hK1 => ?_
  refine Wp_region ?_
  refine Ls_y (wtd0 rfl) rfl rfl (y_assign rfl rfl) ?_
  refine Ls_nil (Th_n (hK1 _ _ ?_))
  refine Wp_seq fun K2 hK2 => ?_
  refine Wp_region ?_
  refine Ls_y (wtd0 rfl) rfl rfl (y_move rfl rfl) ?_
  refine Ls_y (wtd0 rfl) rfl rfl (y_nil rfl rfl) ?_
  refine Ls_y (wtd0 rfl) rfl rfl (y_fld rfl rfl Ty.fo_115_3) ?_
  refine Ls_y (wtd0 rfl) rfl rfl (y_load (i := 0) rfl rfl Ty.pl_3 (fun _ e => e ▸ hp) rfl (nt_lost hT _ _)) ?_
  first
    | refine Ls_y (wtd0 rfl) rfl rfl (y_add rfl rfl rfl (w_succ (by omega))) ?_
    | refine Ls_y (wtd0 rfl) rfl rfl (y_add rfl rfl rfl (wf_i64 (by omega))) ?_
    | refine Ls_y (wtd0 rfl) rfl rfl (y_add rfl rfl rfl rfl) ?_
  refine Ls_y (wtd0 rfl) rfl rfl (y_nil rfl rfl) ?_
  refine Ls_y (wtd0 rfl) rfl rfl (y_fld rfl rfl Ty.fo_115_3) ?_
  refine Ls_a (wtd0 rfl) ?_
  refine a_store (i := 0) rfl rfl rfl rfl rfl Ty.sz_3 rfl hp rfl (by have := colC_len hT; simp [ntC]; omega) (fun w1 (hp : Hp w1 [_, _]) hf _ => ?_)
  have hF := hF.step hf (by intro y hy; simp only [List.mem_cons, List.not_mem_nil, or_false] at hy; subst hy; first | (exact Or.inr (by omega)) | (exact Or.inl (by simp)))
  refine Ls_nil (Th_n (hK2 _ _ ?_))
  have hp : Hp w1 [_, _] := hp.conv (i := 0) rfl (nt_set_lost hT p.A p.c (T.lost + 1))
  refine Wp_seq fun K3 hK3 => ?_
  refine Wp_region ?_
  refine Ls_y (wtd0 rfl) rfl rfl (y_move rfl rfl) ?_
  refine Ls_y (wtd0 rfl) rfl rfl (y_assign rfl rfl) ?_
  refine Ls_nil (Th_n (hK3 _ _ ?_))
  refine Wp_ret (Fq_ret (Res1 rfl rfl) ?_)
  exact ⟨rfl, nt_mod hp hF⟩

end Go.Proofs.Ytikdpkhcegjmfaa

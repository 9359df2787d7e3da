/- Walks printed by gen.py out of our own specifications: what the functions named below do. -/
import Derived.Test.YtcpfhnfpokijaaaJ6
set_option linter.unusedSimpArgs false
set_option linter.unusedVariables false
namespace Go.Proofs.Ytcpfhnfpokijaaa
open Go.RowKit


def open1 (D : Dk) (base size hd : Nat) (least : Int) : Jn := ⟨base, size, max (newestD D base size + 1) least, least, hd, 0, 0, false⟩
def openF (D : Dk) (base size hd : Nat) (least : Int) : Fs := findJ D (open1 D base size hd least)
def openJ (D : Dk) (base size hd : Nat) (least : Int) : Jn := { open1 D base size hd least with next := (openF D base size hd least).next, lasts := (openF D base size hd least).next }
theorem newestD_bound (D : Dk) (base : Nat) : ∀ k, 0 ≤ newestD D base k ∧ newestD D base k < 65536
  | 0 => by simp [newestD]
  | k + 1 => by
    have ih := newestD_bound D base k
    rw [newestD]
    split
    · rename_i h
      cases hc : cellAt D ((base : Int) + (k : Int)) with
      | none => rw [hc] at h; cases h
      | some c =>
        have hl := cellAt_len hc
        obtain ⟨g, q, f, d⟩ := c
        simp only [cG] at hl ⊢
        omega
    · exact ih
theorem keys_one {g : Nat} {o : Obj} {A : Option Addr} {o2 : Obj} {n : Nat} (h1 : n ≤ g) (h2 : ∀ x, blkOf A = some x → n ≤ x) : ∀ k ∈ keys [(some g, o), (blkOf A, o2)], n ≤ k := fun k hk => by
  obtain ⟨i, o, hi⟩ := mem_keys.1 hk
  match i, hi with
  | 0, hi => simp at hi; omega
  | 1, hi => simp at hi; exact h2 k hi.1
  | i + 2, hi => simp at hi

set_option maxRecDepth 20000 in
set_option maxHeartbeats 1000000 in
theorem jopen_ok (p : Dp) (D : Dk) (base size hd : Nat) (least : Int) (w : World) (hp : Hp w (dkH p D)) (hD : Calm D) (hs : 2 ≤ size ∧ size ≤ 1024) (hb : base + size ≤ D.now.length) (hh : 1 ≤ hd ∧ hd ≤ 1000000) (hl : 0 ≤ least ∧ least < 65536) (hg : newestD D base size < 65535) :
    Fn Try.prog 7 [.pointer (some ⟨p.gd, 0, none⟩), .int .i64 (base : Int), .int .i64 (size : Int), .int .u32 (hd : Int), .int .u16 least] w fun v w' => ∃ (gj : Nat) (A : Option Addr) (c : Nat) (sp : List Value), v = .tuple #[.pointer (some ⟨gj, 0, none⟩), .slice A (openF D base size hd least).l.length c, .int .i64 0] ∧ Ow A (openF D base size hd least).l.length c 1 ((openF D base size hd least).l.map sv) sp ∧ New w w' [(some gj, Cl (jC p.gd (openJ D base size hd least)) 53), (blkOf A, Cl ((openF D base size hd least).l.map sv ++ sp) 9)] := by
  refine Fn_of 66 Ty.en_7 Try.func7 rfl rfl rfl ?_
  dsimp only [argEnv]
  have hp : Hp w [(_, Cl [_, _, _, _, _] _), _, _] := hp
  have hF := Fr.refl [] w
  have hmost := hD.ok.most
  have hnb := newestD_bound D base size
  refine Wp_seq fun K1 hK1 => ?_
  refine Wp_region ?_
  refine Ls_y (wtd0 rfl) rfl rfl (y_assign rfl rfl) ?_
  refine Ls_y (wtd0 rfl) rfl rfl (y_assign rfl rfl) ?_
  refine Ls_y (wtd0 rfl) rfl rfl (y_assign rfl rfl) ?_
  refine Ls_nil (Th_n (hK1 _ _ ?_))
  refine Wp_seq fun K2 hK2 => ?_
  refine Wp_seq fun K3 hK3 => ?_
  refine Wp_region ?_
  refine Ls_y (wtd0 rfl) rfl rfl (y_move rfl rfl) ?_
  refine Ls_y (wtd0 rfl) rfl rfl (y_ltF rfl rfl rfl (by omega)) ?_
  refine Ls_y (wtd0 rfl) rfl rfl (y_move rfl rfl) ?_
  refine Ls_y (wtdT rfl rfl rfl) rfl rfl (y_move rfl rfl) ?_
  refine Ls_y (wtdT rfl rfl rfl) rfl rfl (y_ltF rfl rfl rfl (by omega)) ?_
  refine Ls_y (wtd0 rfl) rfl rfl (y_pick_f rfl rfl rfl) ?_
  refine Ls_y (wtd0 rfl) rfl rfl (y_move rfl rfl) ?_
  refine Ls_y (wtdT rfl rfl rfl) rfl rfl (y_move rfl rfl) ?_
  refine Ls_y (wtdT rfl rfl rfl) rfl rfl (y_gtF rfl rfl rfl (by omega)) ?_
  refine Ls_y (wtd0 rfl) rfl rfl (y_pick_f rfl rfl rfl) ?_
  refine Ls_y (wtd0 rfl) rfl rfl (y_move rfl rfl) ?_
  refine Ls_y (wtdT rfl rfl rfl) rfl rfl (y_move rfl rfl) ?_
  refine Ls_y (wtdT rfl rfl rfl) rfl rfl (y_move rfl rfl) ?_
  refine Ls_a (wtdT rfl rfl rfl) ?_
  refine a_call rfl rfl rfl rfl (dlen_ok p D _ (hp.picks [0, 1, 2] (by decide))) (fun v wq ⟨hv, hw⟩ => ?_)
  subst hv
  subst hw
  refine Ls_y (wtdT rfl rfl rfl) rfl rfl (y_gtF rfl rfl rfl (by omega)) ?_
  refine Ls_y (wtd0 rfl) rfl rfl (y_pick_f rfl rfl rfl) ?_
  refine Ls_y (wtd0 rfl) rfl rfl (y_move rfl rfl) ?_
  refine Ls_y (wtdT rfl rfl rfl) rfl rfl (y_move rfl rfl) ?_
  refine Ls_y (wtdT rfl rfl rfl) rfl rfl (y_move rfl rfl) ?_
  refine Ls_a (wtdT rfl rfl rfl) ?_
  refine a_call rfl rfl rfl rfl (dlen_ok p D _ (hp.picks [0, 1, 2] (by decide))) (fun v wq ⟨hv, hw⟩ => ?_)
  subst hv
  subst hw
  refine Ls_y (wtdT rfl rfl rfl) rfl rfl (y_move rfl rfl) ?_
  refine Ls_y (wtdT rfl rfl rfl) rfl rfl (y_sub rfl rfl rfl (wf_i64 (by omega))) ?_
  refine Ls_y (wtdT rfl rfl rfl) rfl rfl (y_gtF rfl rfl rfl (by omega)) ?_
  refine Ls_y (wtd0 rfl) rfl rfl (y_pick_f rfl rfl rfl) ?_
  refine Ls_y (wtd0 rfl) rfl rfl (y_move rfl rfl) ?_
  refine Ls_y (wtdT rfl rfl rfl) rfl rfl (y_move rfl rfl) ?_
  refine Ls_y (wtdT rfl rfl rfl) rfl rfl (y_eqF rfl rfl rfl (by omega)) ?_
  refine Ls_y (wtd0 rfl) rfl rfl (y_pick_f rfl rfl rfl) ?_
  refine Ls_nil (Th_n (hK3 _ _ ?_))
  refine Wp_cond_f rfl ?_
  refine Wp_skip (Th_n (hK2 _ _ ?_))
  refine Wp_seq fun K4 hK4 => ?_
  refine Wp_seq fun K5 hK5 => ?_
  refine Wp_region ?_
  refine Ls_y (wtd0 rfl) rfl rfl (y_move rfl rfl) ?_
  refine Ls_a (wtd0 rfl) ?_
  refine a_call rfl rfl rfl rfl (ddown_ok p D _ (hp.picks [0, 1, 2] (by decide))) (fun v wq ⟨hv, hw⟩ => ?_)
  subst hv
  subst hw
  refine Ls_nil (Th_n (hK5 _ _ ?_))
  refine Wp_bool 44 rfl (fun hc1 => absurd hc1 (by simp [hD.down])) (fun _ => ?_)
  refine Wp_cond_f rfl ?_
  refine Wp_skip (Th_n (hK4 _ _ ?_))
  refine Wp_seq fun K6 hK6 => ?_
  refine Wp_region ?_
  refine Ls_y (wtd0 rfl) rfl rfl (y_move rfl rfl) ?_
  refine Ls_y (wtd0 rfl) rfl rfl (y_move rfl rfl) ?_
  refine Ls_y (wtd0 rfl) rfl rfl (y_move rfl rfl) ?_
  refine Ls_y (wtd0 rfl) rfl rfl (y_move rfl rfl) ?_
  refine Ls_y (wtd0 rfl) rfl rfl (y_move rfl rfl) ?_
  refine Ls_y (wtd0 rfl) rfl rfl (y_build (cells := [_, _, _, _, _, _, _, _, _]) rfl rfl Ty.zc_53 Ty.ps_53 rfl) ?_
  refine Ls_a (wtd0 rfl) ?_
  refine a_box rfl rfl rfl rfl hp (fun g1 w1 (hp : Hp w1 [(_, Cl [_, _, _, _, _] _), _, _, (_, Cl [_, _, _, _, _, _, _, _, _] _)]) hf hg1 => ?_)
  have hg1 := Nat.le_trans hF.size hg1
  have hF := hF.step0 hf
  refine Ls_y (wtd0 rfl) rfl rfl (y_assign rfl rfl) ?_
  refine Ls_nil (Th_n (hK6 _ _ ?_))
  refine Wp_seq fun K7 hK7 => ?_
  refine Wp_region ?_
  refine Ls_y (wtd0 rfl) rfl rfl (y_move rfl rfl) ?_
  refine Ls_a (wtd0 rfl) ?_
  refine a_call rfl rfl rfl rfl (jnewest_ok g1 p D ⟨base, size, 0, least, hd, 0, 0, false⟩ _ (hp.picks [0, 1, 2, 3] (by decide)) hD.ok ⟨by simp only; omega, by simp only; omega, by simp only; omega, by simp only; omega⟩) (fun v w5 ⟨hv, hf⟩ => ?_)
  have hv : v = .int .u16 (newestD D base size) := hv
  subst hv
  have hp := hp.keep0 hf
  have hF := hF.step0 hf
  refine Ls_y (wtd0 rfl) rfl rfl (y_assign rfl rfl) ?_
  refine Ls_nil (Th_n (hK7 _ _ ?_))
  refine Wp_seq fun K8 hK8 => ?_
  refine Wp_seq fun K9 hK9 => ?_
  refine Wp_region ?_
  refine Ls_y (wtd0 rfl) rfl rfl (y_move rfl rfl) ?_
  refine Ls_y (wtd0 rfl) rfl rfl (y_eqF rfl rfl rfl (by omega)) ?_
  refine Ls_nil (Th_n (hK9 _ _ ?_))
  refine Wp_cond_f rfl ?_
  refine Wp_skip (Th_n (hK8 _ _ ?_))
  refine Wp_seq fun K10 hK10 => ?_
  refine Wp_region ?_
  refine Ls_y (wtd0 rfl) rfl rfl (y_move rfl rfl) ?_
  refine Ls_y (wtd0 rfl) rfl rfl (y_move rfl rfl) ?_
  refine Ls_y (wtd0 rfl) rfl rfl (y_add rfl rfl rfl (wf_u16 (by omega))) ?_
  refine Ls_y (wtd0 rfl) rfl rfl (y_move rfl rfl) ?_
  refine Ls_y (wtd0 rfl) rfl rfl (y_max rfl rfl rfl) ?_
  refine Ls_y (wtd0 rfl) rfl rfl (y_nil rfl rfl) ?_
  refine Ls_y (wtd0 rfl) rfl rfl (y_fld rfl rfl Ty.fo_53_3) ?_
  refine Ls_a (wtd0 rfl) ?_
  first
    | refine a_store (i := 0) rfl rfl rfl rfl rfl Ty.sz_33 rfl hp rfl (by first | decide | (simp; done) | (simp; omega)) (fun w2 (hp : Hp w2 [(_, Cl [_, _, _, _, _] _), _, _, (_, Cl [_, _, _, _, _, _, _, _, _] _)]) hf _ => ?_)
    | refine a_store (i := 1) rfl rfl rfl rfl rfl Ty.sz_33 rfl hp rfl (by first | decide | (simp; done) | (simp; omega)) (fun w2 (hp : Hp w2 [(_, Cl [_, _, _, _, _] _), _, _, (_, Cl [_, _, _, _, _, _, _, _, _] _)]) hf _ => ?_)
    | refine a_store (i := 2) rfl rfl rfl rfl rfl Ty.sz_33 rfl hp rfl (by first | decide | (simp; done) | (simp; omega)) (fun w2 (hp : Hp w2 [(_, Cl [_, _, _, _, _] _), _, _, (_, Cl [_, _, _, _, _, _, _, _, _] _)]) hf _ => ?_)
    | refine a_store (i := 3) rfl rfl rfl rfl rfl Ty.sz_33 rfl hp rfl (by first | decide | (simp; done) | (simp; omega)) (fun w2 (hp : Hp w2 [(_, Cl [_, _, _, _, _] _), _, _, (_, Cl [_, _, _, _, _, _, _, _, _] _)]) hf _ => ?_)
  have hF := hF.step hf (by intro y hy; simp only [List.mem_cons, List.not_mem_nil, or_false] at hy; subst hy; first | (exact Or.inr (by omega)) | (exact Or.inl (by simp)))
  refine Ls_nil (Th_n (hK10 _ _ ?_))
  refine Wp_seq fun K11 hK11 => ?_
  refine Wp_region ?_
  refine Ls_y (wtd0 rfl) rfl rfl (y_move rfl rfl) ?_
  refine Ls_y (wtd0 rfl) rfl rfl (y_move rfl rfl) ?_
  refine Ls_a (wtd0 rfl) ?_
  refine a_call rfl rfl rfl rfl (jfind_ok g1 p D (open1 D base size hd least) _ (hp.picks [0, 1, 2, 3] (by decide)) hD.ok ⟨by simp only [open1]; omega, by simp only [open1]; omega, by simp only [open1]; omega, by simp only [open1]; omega⟩) (fun v w6 ⟨A, c, sp, hv, how, hq, hf, hnA⟩ => ?_)
  subst hv
  have hz := hF.size
  have hF := hF.step hf (by intro y hy; simp only [List.mem_cons, List.not_mem_nil, or_false] at hy; subst hy; exact .inr (by omega))
  refine Ls_y (wtd0 rfl) rfl rfl (y_assign rfl rfl) ?_
  refine Ls_y (wtd0 rfl) rfl rfl (y_assign rfl rfl) ?_
  refine Ls_y (wtd0 rfl) rfl rfl (y_assign rfl rfl) ?_
  refine Ls_nil (Th_n (hK11 _ _ ?_))
  refine Wp_ret (Fq_ret (Res3 rfl rfl rfl rfl) ?_)
  refine ⟨g1, A, c, sp, rfl, how, ⟨hF, hq.picks [3, 4] (by decide), keys_one hg1 (fun x hx => Nat.le_trans hz (hnA x hx))⟩⟩

set_option maxRecDepth 20000 in
theorem jopen_bad (p : Dp) (D : Dk) (base size hd : Nat) (least : Int) (w : World) (hp : Hp w (dkH p D)) (hD : DkOk D) (hs : 2 ≤ size ∧ size ≤ 1024) (hb : D.now.length < base + size) (hb2 : base ≤ D.now.length) :
    Fn Try.prog 7 [.pointer (some ⟨p.gd, 0, none⟩), .int .i64 (base : Int), .int .i64 (size : Int), .int .u32 (hd : Int), .int .u16 least] w fun v w' => v = .tuple #[.pointer none, .slice none 0 0, .int .i64 2] ∧ Fr [] w w' := by
  refine Fn_of 66 Ty.en_7 Try.func7 rfl rfl rfl ?_
  dsimp only [argEnv]
  have hp : Hp w [(_, Cl [_, _, _, _, _] _), _, _] := hp
  have hF := Fr.refl [] w
  have hmost := hD.most
  refine Wp_seq fun K1 hK1 => ?_
  refine Wp_region ?_
  refine Ls_y (wtd0 rfl) rfl rfl (y_assign rfl rfl) ?_
  refine Ls_y (wtd0 rfl) rfl rfl (y_assign rfl rfl) ?_
  refine Ls_y (wtd0 rfl) rfl rfl (y_assign rfl rfl) ?_
  refine Ls_nil (Th_n (hK1 _ _ ?_))
  refine Wp_seq fun K2 hK2 => ?_
  refine Wp_seq fun K3 hK3 => ?_
  refine Wp_region ?_
  refine Ls_y (wtd0 rfl) rfl rfl (y_move rfl rfl) ?_
  refine Ls_y (wtd0 rfl) rfl rfl (y_ltF rfl rfl rfl (by omega)) ?_
  refine Ls_y (wtd0 rfl) rfl rfl (y_move rfl rfl) ?_
  refine Ls_y (wtdT rfl rfl rfl) rfl rfl (y_move rfl rfl) ?_
  refine Ls_y (wtdT rfl rfl rfl) rfl rfl (y_ltF rfl rfl rfl (by omega)) ?_
  refine Ls_y (wtd0 rfl) rfl rfl (y_pick_f rfl rfl rfl) ?_
  refine Ls_y (wtd0 rfl) rfl rfl (y_move rfl rfl) ?_
  refine Ls_y (wtdT rfl rfl rfl) rfl rfl (y_move rfl rfl) ?_
  refine Ls_y (wtdT rfl rfl rfl) rfl rfl (y_gtF rfl rfl rfl (by omega)) ?_
  refine Ls_y (wtd0 rfl) rfl rfl (y_pick_f rfl rfl rfl) ?_
  refine Ls_y (wtd0 rfl) rfl rfl (y_move rfl rfl) ?_
  refine Ls_y (wtdT rfl rfl rfl) rfl rfl (y_move rfl rfl) ?_
  refine Ls_y (wtdT rfl rfl rfl) rfl rfl (y_move rfl rfl) ?_
  refine Ls_a (wtdT rfl rfl rfl) ?_
  refine a_call rfl rfl rfl rfl (dlen_ok p D _ (hp.picks [0, 1, 2] (by decide))) (fun v wq ⟨hv, hw⟩ => ?_)
  subst hv
  subst hw
  refine Ls_y (wtdT rfl rfl rfl) rfl rfl (y_gtF rfl rfl rfl (by omega)) ?_
  refine Ls_y (wtd0 rfl) rfl rfl (y_pick_f rfl rfl rfl) ?_
  refine Ls_y (wtd0 rfl) rfl rfl (y_move rfl rfl) ?_
  refine Ls_y (wtdT rfl rfl rfl) rfl rfl (y_move rfl rfl) ?_
  refine Ls_y (wtdT rfl rfl rfl) rfl rfl (y_move rfl rfl) ?_
  refine Ls_a (wtdT rfl rfl rfl) ?_
  refine a_call rfl rfl rfl rfl (dlen_ok p D _ (hp.picks [0, 1, 2] (by decide))) (fun v wq ⟨hv, hw⟩ => ?_)
  subst hv
  subst hw
  refine Ls_y (wtdT rfl rfl rfl) rfl rfl (y_move rfl rfl) ?_
  refine Ls_y (wtdT rfl rfl rfl) rfl rfl (y_sub rfl rfl rfl (wf_i64 (by omega))) ?_
  refine Ls_y (wtdT rfl rfl rfl) rfl rfl (y_gtT rfl rfl rfl (by omega)) ?_
  refine Ls_y (wtd0 rfl) rfl rfl (y_pick_f rfl rfl rfl) ?_
  refine Ls_y (wtd0 rfl) rfl rfl (y_move rfl rfl) ?_
  refine Ls_s (wtdF rfl rfl rfl) rfl rfl ?_
  refine Ls_s (wtdF rfl rfl rfl) rfl rfl ?_
  refine Ls_y (wtd0 rfl) rfl rfl (y_pick_t rfl rfl rfl) ?_
  refine Ls_nil (Th_n (hK3 _ _ ?_))
  refine Wp_cond_t rfl ?_
  refine Wp_seq fun K4 hK4 => ?_
  refine Wp_region ?_
  refine Ls_y (wtd0 rfl) rfl rfl (y_assign rfl rfl) ?_
  refine Ls_y (wtd0 rfl) rfl rfl (y_assign rfl rfl) ?_
  refine Ls_y (wtd0 rfl) rfl rfl (y_assign rfl rfl) ?_
  refine Ls_nil (Th_n (hK4 _ _ ?_))
  refine Wp_ret (Th_r (Fq_ret (Res3 rfl rfl rfl rfl) ?_))
  exact ⟨rfl, hF⟩

end Go.Proofs.Ytcpfhnfpokijaaa

/- Walks printed by gen2.py out of our own specifications: what the functions named below do. -/
import Derived.Test.YtikdpkhcegjmfaaSe
import Derived.Test.YtikdpkhcegjmfaaTy
import Derived.Test.YtikdpkhcegjmfaaW24
set_option linter.unusedSimpArgs false
set_option linter.unusedVariables false
namespace Go.Proofs.Ytikdpkhcegjmfaa
open Go.RowKit

instance : Inhabited MsgV := ⟨⟨0, 0, []⟩⟩
instance : DecidableEq MsgV := fun a b => decidable_of_iff (a.f = b.f ∧ a.t = b.t ∧ a.s = b.s) (by cases a; cases b; simp)

def from31_m (m : MsgV) : MsgV :=
  m

set_option maxRecDepth 20000 in
theorem from31_ok (w : World) (m : MsgV) :
    Fn Try.prog 23 [.agg (msgC m).toArray] w fun v w' => v = .agg (msgC (from31_m m)).toArray ∧ Fr [] w w' := by
  refine Fn_of 10 Ty.en_23 Try.func23 rfl rfl rfl ?_
  dsimp only [argEnv]
  have st : St [] w [] [] := St.nil (X := []) (w := w) (by simp [Lo])
  have hF := Fr.refl ([]) w
  refine Wp_seq fun K1 hK1 => ?_
  refine Wp_region ?_
  refine Ls_a (wtd0 rfl) ?_
  refine a_box rfl rfl rfl rfl st.hp (fun g1 w1 (hp : Hp w1 [(_, Cl [_, _, _] _)]) hf hg1 => ?_)
  have st : St [] w1 [(_, Cl [_, _, _] _)] [] := st.push hp hf hg1
  have hg1 := Nat.le_trans hF.size hg1
  have hF := hF.step0 hf
  refine Ls_a (wtd0 rfl) ?_
  refine a_alloc rfl rfl rfl Ty.zc_46 st.hp (fun g2 w2 (hp : Hp w2 [(_, Cl [_, _, _] _), (_, Cl [_, _, _] _)]) hf hg2 => ?_)
  have st : St [] w2 [(_, Cl [_, _, _] _), (_, Cl [_, _, _] _)] [] := st.push hp hf hg2
  have hg2 := Nat.le_trans hF.size hg2
  have hF := hF.step0 hf
  refine Ls_nil (Th_n (hK1 _ _ ?_))
  refine Wp_seq fun K2 hK2 => ?_
  refine Wp_region ?_
  refine Ls_y (wtd0 rfl) rfl rfl (y_fld rfl rfl Ty.fo_51_0) ?_
  refine Ls_y (wtd0 rfl) rfl rfl (y_load (i := 0) rfl rfl Ty.pl_3 (fun _ e => e ▸ st.hp) rfl rfl) ?_
  refine Ls_y (wtd0 rfl) rfl rfl (y_fld rfl rfl Ty.fo_51_1) ?_
  refine Ls_y (wtd0 rfl) rfl rfl (y_load (i := 0) rfl rfl Ty.pl_3 (fun _ e => e ▸ st.hp) rfl rfl) ?_
  refine Ls_y (wtd0 rfl) rfl rfl (y_fld rfl rfl Ty.fo_51_2) ?_
  refine Ls_y (wtd0 rfl) rfl rfl (y_load (i := 0) rfl rfl Ty.pl_9 (fun _ e => e ▸ st.hp) rfl rfl) ?_
  refine Ls_y (wtd0 rfl) rfl rfl (y_build (cells := [_, _, _]) rfl rfl Ty.zc_46 Ty.ps_46 rfl) ?_
  refine Ls_a (wtd0 rfl) ?_
  refine a_storew (i := 1) rfl rfl rfl rfl Ty.sz_46 rfl (by first | assumption | (simp [Value.oneCell']; done)) st.hp rfl rfl (fun w3 (hp : Hp w3 [(_, Cl [_, _, _] _), (_, Cl [_, _, _] _)]) hf _ => ?_)
  have st : St [] w3 [(_, Cl [_, _, _] _), (_, Cl [_, _, _] _)] [] := st.set (i := 1) rfl hp hf
  have hF := hF.step hf (by intro y hy; simp only [List.mem_cons, List.not_mem_nil, or_false] at hy; subst hy; first | (exact Or.inr (by omega)) | (exact Or.inl (kin0 _ _)) | (exact Or.inl (by simp)))
  refine Ls_nil (Th_n (hK2 _ _ ?_))
  refine Wp_ret (Fq_ret (ResN1 rfl (rvc (i := 1) rfl Ty.ag_46 st.hp rfl rfl)) ?_)
  have he1 : from31_m m = m := by
    unfold from31_m
    all_goals rfl
  rewrite [he1]
  exact ⟨rfl, hF⟩

structure NetM where
  c : List Int
  l : List MsgV
  count : Int
instance : Inhabited NetM := ⟨⟨default, default, default⟩⟩
instance : DecidableEq NetM := fun a b => decidable_of_iff (a.c = b.c ∧ a.l = b.l ∧ a.count = b.count) (by cases a; cases b; simp)
def rnode_m (t : NetM) (k : Int) : Bool :=
  if 0 ≤ k then
    decide (k < (t.c.length : Int))
  else
    false

set_option maxRecDepth 20000 in
theorem rnode_ok (X : List Nat) (w : World) (g_t : Nat) (t : NetM) (A_t_c : Option Addr) (c_t_c : Nat) (sp_t_c : List Value) (A_t_l : Option Addr) (c_t_l : Nat) (k : Int) (hs : St X w [(some g_t, Cl [.slice A_t_c t.c.length c_t_c, .slice A_t_l t.l.length c_t_l, .int .i64 t.count] 118), (blkOf A_t_c, Cl (t.c.flatMap (fun x => [Value.int .i64 x]) ++ sp_t_c) 3)] [kS A_t_l t.l.length c_t_l 3 (t.l.flatMap msgC)]) (how_t_c : Ow A_t_c t.c.length c_t_c 1 (t.c.flatMap (fun x => [Value.int .i64 x])) sp_t_c) :
    Fn Try.prog 74 [.pointer (some ⟨g_t, 0, none⟩), .int .i64 k] w fun v w' => v = .bool (rnode_m t k) ∧ Fr [] w w' := by
  refine Fn_of 16 Ty.en_74 Try.func74 rfl rfl rfl ?_
  dsimp only [argEnv]
  have hs0 := hs
  have st : St X w [(some g_t, Cl [.slice A_t_c t.c.length c_t_c, .slice A_t_l t.l.length c_t_l, .int .i64 t.count] 118), (blkOf A_t_c, Cl (t.c.flatMap (fun x => [Value.int .i64 x]) ++ sp_t_c) 3)] [kS A_t_l t.l.length c_t_l 3 (t.l.flatMap msgC)] := hs
  have hnewA_t_c := True
  have hleA_t_c := Ow.le how_t_c
  have hF := Fr.refl ([]) w
  have hleA_t_l := (st.k (i := 0) rfl).le
  refine Wp_seq fun K1 hK1 => ?_
  refine Wp_region ?_
  refine Ls_y (wtd0 rfl) rfl rfl (y_assign rfl rfl) ?_
  refine Ls_nil (Th_n (hK1 _ _ ?_))
  refine Wp_seq fun K2 hK2 => ?_
  refine Wp_region ?_
  refine Ls_y (wtd0 rfl) rfl rfl (y_move rfl rfl) ?_
  refine Ls_y (wtd0 rfl) rfl rfl (y_ge rfl rfl rfl) ?_
  refine Ls_y (wtd0 rfl) rfl rfl (y_move rfl rfl) ?_
  refine Ls_bool 7 rfl (fun hc1 => ?_) (fun hc1 => ?_)
  · have hc1 : 0 ≤ k := by first | simpa using hc1 | (intro hh; rw [hh] at hc1; cases hc1)
    refine Ls_y (wtdT rfl rfl rfl) rfl rfl (y_move rfl rfl) ?_
    refine Ls_y (wtdT rfl rfl rfl) rfl rfl (y_move rfl rfl) ?_
    refine Ls_y (wtdT rfl rfl rfl) rfl rfl (y_nil rfl rfl) ?_
    refine Ls_y (wtdT rfl rfl rfl) rfl rfl (y_fld rfl rfl Ty.fo_118_0) ?_
    refine Ls_y (wtdT rfl rfl rfl) rfl rfl (y_load (i := 0) rfl rfl Ty.pl_73 (fun _ e => e ▸ st.hp) rfl rfl) ?_
    refine Ls_y (wtdT rfl rfl rfl) rfl rfl (y_lenl rfl rfl Try.underlying73) ?_
    refine Ls_y (wtdT rfl rfl rfl) rfl rfl (y_lt rfl rfl rfl) ?_
    refine Ls_y (wtd0 rfl) rfl rfl (y_pick_t rfl rfl rfl) ?_
    refine Ls_y (wtd0 rfl) rfl rfl (y_assign rfl rfl) ?_
    refine Ls_nil (Th_n (hK2 _ _ ?_))
    refine Wp_ret (Fq_ret (Res1 rfl rfl) ?_)
    have he1 : rnode_m t k = (decide (k < (t.c.length : Int))) := by
      unfold rnode_m
      all_goals rewrite [if_pos hc1]
      all_goals rfl
    rewrite [he1]
    exact ⟨rfl, hF⟩
  · have hc1 : ¬ (0 ≤ k) := by first | simpa using hc1 | (intro hh; rw [hh] at hc1; cases hc1)
    refine Ls_s (wtdF rfl rfl rfl) rfl rfl ?_
    refine Ls_s (wtdF rfl rfl rfl) rfl rfl ?_
    refine Ls_s (wtdF rfl rfl rfl) rfl rfl ?_
    refine Ls_s (wtdF rfl rfl rfl) rfl rfl ?_
    refine Ls_s (wtdF rfl rfl rfl) rfl rfl ?_
    refine Ls_s (wtdF rfl rfl rfl) rfl rfl ?_
    refine Ls_s (wtdF rfl rfl rfl) rfl rfl ?_
    refine Ls_y (wtd0 rfl) rfl rfl (y_pick_f rfl rfl rfl) ?_
    refine Ls_y (wtd0 rfl) rfl rfl (y_assign rfl rfl) ?_
    refine Ls_nil (Th_n (hK2 _ _ ?_))
    refine Wp_ret (Fq_ret (Res1 rfl rfl) ?_)
    have he2 : rnode_m t k = false := by
      unfold rnode_m
      all_goals rewrite [if_neg hc1]
      all_goals rfl
    rewrite [he2]
    exact ⟨rfl, hF⟩

theorem rnode_iff (t : NetM) (k : Int) : rnode_m t k = true ↔ 0 ≤ k ∧ k < (t.c.length : Int) := by
  unfold rnode_m; split <;> simp <;> omega

def rapart_m (t : NetM) (a : Int) (b : Int) : Bool :=
  if (rnode_m t a) = true then
    if (rnode_m t b) = true then
      (ix t.c a) != (ix t.c b)
    else
      false
  else
    false

set_option maxRecDepth 20000 in
theorem rapart_ok (X : List Nat) (w : World) (g_t : Nat) (t : NetM) (A_t_c : Option Addr) (c_t_c : Nat) (sp_t_c : List Value) (A_t_l : Option Addr) (c_t_l : Nat) (a : Int) (b : Int) (hs : St X w [(some g_t, Cl [.slice A_t_c t.c.length c_t_c, .slice A_t_l t.l.length c_t_l, .int .i64 t.count] 118), (blkOf A_t_c, Cl (t.c.flatMap (fun x => [Value.int .i64 x]) ++ sp_t_c) 3)] [kS A_t_l t.l.length c_t_l 3 (t.l.flatMap msgC)]) (how_t_c : Ow A_t_c t.c.length c_t_c 1 (t.c.flatMap (fun x => [Value.int .i64 x])) sp_t_c) :
    Fn Try.prog 32 [.pointer (some ⟨g_t, 0, none⟩), .int .i64 a, .int .i64 b] w fun v w' => v = .bool (rapart_m t a b) ∧ Fr [] w w' := by
  refine Fn_of 32 Ty.en_32 Try.func32 rfl rfl rfl ?_
  dsimp only [argEnv]
  have hs0 := hs
  have st : St X w [(some g_t, Cl [.slice A_t_c t.c.length c_t_c, .slice A_t_l t.l.length c_t_l, .int .i64 t.count] 118), (blkOf A_t_c, Cl (t.c.flatMap (fun x => [Value.int .i64 x]) ++ sp_t_c) 3)] [kS A_t_l t.l.length c_t_l 3 (t.l.flatMap msgC)] := hs
  have hnewA_t_c := True
  have hleA_t_c := Ow.le how_t_c
  have hF := Fr.refl ([]) w
  have hleA_t_l := (st.k (i := 0) rfl).le
  refine Wp_seq fun K1 hK1 => ?_
  refine Wp_region ?_
  refine Ls_y (wtd0 rfl) rfl rfl (y_assign rfl rfl) ?_
  refine Ls_nil (Th_n (hK1 _ _ ?_))
  refine Wp_seq fun K2 hK2 => ?_
  refine Wp_plan (fun W => St X W (pickL (hOf st) [0, 1]) (kOf st)) [(true, 0), (true, 1), (false, 2), (true, 3), (true, 4), (true, 5), (false, 6), (true, 7), (true, 8), (true, 9), (true, 10), (true, 11), (true, 12), (true, 13), (true, 14), (true, 15), (true, 16), (true, 17), (true, 18), (true, 19), (true, 20), (true, 21), (true, 22), (true, 23), (true, 24), (true, 25)] Ty.mx_0 (by kernel_rfl) (by kernel_rfl) rfl ((st.picks [0, 1] (by decide)).drew) ?_
  have st := st.drew
  have hF := hF.step0 (Fr.drew _)
  refine Pl_y rfl (wtd0 rfl) rfl rfl (y_move rfl rfl) ?_
  refine Pl_y rfl (wtd0 rfl) rfl rfl (y_move rfl rfl) ?_
  refine Pl_a rfl (wtd0 rfl) (by rfl) ?_
  refine a_call rfl rfl rfl rfl (rnode_ok (keys (pickL (hOf st) []) ++ X) _ g_t t A_t_c c_t_c sp_t_c A_t_l c_t_l a (st.sub [] [0, 1] [0] (by decide)) how_t_c) (fun v w1 ⟨hv, hf⟩ => ?_)
  subst hv
  have st := st.keep0 hf
  have hF := hF.step0 hf
  have st : St X w1 [(some g_t, Cl [.slice A_t_c t.c.length c_t_c, .slice A_t_l t.l.length c_t_l, .int .i64 t.count] 118), (blkOf A_t_c, Cl (t.c.flatMap (fun x => [Value.int .i64 x]) ++ sp_t_c) 3)] [kS A_t_l t.l.length c_t_l 3 (t.l.flatMap msgC)] := st
  refine ⟨(st.picks [0, 1] (by decide)).takeK 1, ?_⟩
  refine Pl_y rfl (wtd0 rfl) rfl rfl (y_move rfl rfl) ?_
  refine Pl_bool 10 rfl (fun hc1 => ?_) (fun hc1 => ?_)
  · have hc1 : (rnode_m t a) = true := by first | simpa using hc1 | (intro hh; rw [hh] at hc1; cases hc1)
    have khc1 := (rnode_iff _ _).1 hc1
    refine Pl_y rfl (wtdT rfl rfl rfl) rfl rfl (y_move rfl rfl) ?_
    refine Pl_y rfl (wtdT rfl rfl rfl) rfl rfl (y_move rfl rfl) ?_
    refine Pl_a rfl (wtdT rfl rfl rfl) (by rfl) ?_
    refine a_call rfl rfl rfl rfl (rnode_ok (keys (pickL (hOf st) []) ++ X) _ g_t t A_t_c c_t_c sp_t_c A_t_l c_t_l b (st.sub [] [0, 1] [0] (by decide)) how_t_c) (fun v w2 ⟨hv, hf⟩ => ?_)
    subst hv
    have st := st.keep0 hf
    have hF := hF.step0 hf
    have st : St X w2 [(some g_t, Cl [.slice A_t_c t.c.length c_t_c, .slice A_t_l t.l.length c_t_l, .int .i64 t.count] 118), (blkOf A_t_c, Cl (t.c.flatMap (fun x => [Value.int .i64 x]) ++ sp_t_c) 3)] [kS A_t_l t.l.length c_t_l 3 (t.l.flatMap msgC)] := st
    refine ⟨(st.picks [0, 1] (by decide)).takeK 1, ?_⟩
    refine Pl_y rfl (wtd0 rfl) rfl rfl (y_pick_t rfl rfl rfl) ?_
    refine Pl_y rfl (wtd0 rfl) rfl rfl (y_move rfl rfl) ?_
    refine Pl_bool 15 rfl (fun hc2 => ?_) (fun hc2 => ?_)
    · have hc2 : (rnode_m t b) = true := by first | simpa using hc2 | (intro hh; rw [hh] at hc2; cases hc2)
      have khc2 := (rnode_iff _ _).1 hc2
      refine Pl_y rfl (wtdT rfl rfl rfl) rfl rfl (y_move rfl rfl) ?_
      refine Pl_y rfl (wtdT rfl rfl rfl) rfl rfl (y_nil rfl rfl) ?_
      refine Pl_y rfl (wtdT rfl rfl rfl) rfl rfl (y_fld rfl rfl Ty.fo_118_0) ?_
      refine Pl_y rfl (wtdT rfl rfl rfl) rfl rfl (y_load (i := 0) rfl rfl Ty.pl_73 (fun _ h => h.hp) rfl rfl) ?_
      refine Pl_y rfl (wtdT rfl rfl rfl) rfl rfl (y_move rfl rfl) ?_
      obtain ⟨gi1, egi1⟩ := (how_t_c).some_ (by first | omega | (simp; done) | (simp; omega))
      subst egi1
      refine Pl_y rfl (wtdT rfl rfl rfl) rfl rfl (y_ixa (q := a) rfl rfl rfl Ty.es_73 (by first | omega | (simp; done) | (simp; omega)) (by first | omega | (simp; done) | (simp; omega))) ?_
      refine Pl_y rfl (wtdT rfl rfl rfl) rfl rfl (y_ldk1 (q := a) 0 rfl rfl Ty.pl_3 (fun _ h => Sld.own (i := 1) h.hp rfl how_t_c (by decide)) (fun _ => rfl) (by first | omega | (simp; done) | (simp; omega)) (by first | omega | (simp; done) | (simp; omega)) rfl) ?_
      refine Pl_y rfl (wtdT rfl rfl rfl) rfl rfl (y_move rfl rfl) ?_
      refine Pl_y rfl (wtdT rfl rfl rfl) rfl rfl (y_nil rfl rfl) ?_
      refine Pl_y rfl (wtdT rfl rfl rfl) rfl rfl (y_fld rfl rfl Ty.fo_118_0) ?_
      refine Pl_y rfl (wtdT rfl rfl rfl) rfl rfl (y_load (i := 0) rfl rfl Ty.pl_73 (fun _ h => h.hp) rfl rfl) ?_
      refine Pl_y rfl (wtdT rfl rfl rfl) rfl rfl (y_move rfl rfl) ?_
      refine Pl_y rfl (wtdT rfl rfl rfl) rfl rfl (y_ixa (q := b) rfl rfl rfl Ty.es_73 (by first | omega | (simp; done) | (simp; omega)) (by first | omega | (simp; done) | (simp; omega))) ?_
      refine Pl_y rfl (wtdT rfl rfl rfl) rfl rfl (y_ldk1 (q := b) 0 rfl rfl Ty.pl_3 (fun _ h => Sld.own (i := 1) h.hp rfl how_t_c (by decide)) (fun _ => rfl) (by first | omega | (simp; done) | (simp; omega)) (by first | omega | (simp; done) | (simp; omega)) rfl) ?_
      refine Pl_y rfl (wtdT rfl rfl rfl) rfl rfl (y_ne rfl rfl rfl) ?_
      refine Pl_y rfl (wtd0 rfl) rfl rfl (y_pick_t rfl rfl rfl) ?_
      refine Pl_y rfl (wtd0 rfl) rfl rfl (y_assign rfl rfl) ?_
      refine Pl_nil (Th_n (hK2 _ _ ?_))
      refine Wp_ret (Fq_ret (Res1 rfl rfl) ?_)
      have he1 : rapart_m t a b = ((ix t.c a) != (ix t.c b)) := by
        unfold rapart_m
        all_goals rewrite [if_pos hc1]
        all_goals rewrite [if_pos hc2]
        all_goals rfl
      rewrite [he1]
      exact ⟨rfl, hF⟩
    · have hc2 : ¬ ((rnode_m t b) = true) := by first | simpa using hc2 | (intro hh; rw [hh] at hc2; cases hc2)
      refine Pl_s rfl (wtdF rfl rfl rfl) rfl rfl ?_
      refine Pl_s rfl (wtdF rfl rfl rfl) rfl rfl ?_
      refine Pl_s rfl (wtdF rfl rfl rfl) rfl rfl ?_
      refine Pl_s rfl (wtdF rfl rfl rfl) rfl rfl ?_
      refine Pl_s rfl (wtdF rfl rfl rfl) rfl rfl ?_
      refine Pl_s rfl (wtdF rfl rfl rfl) rfl rfl ?_
      refine Pl_s rfl (wtdF rfl rfl rfl) rfl rfl ?_
      refine Pl_s rfl (wtdF rfl rfl rfl) rfl rfl ?_
      refine Pl_s rfl (wtdF rfl rfl rfl) rfl rfl ?_
      refine Pl_s rfl (wtdF rfl rfl rfl) rfl rfl ?_
      refine Pl_s rfl (wtdF rfl rfl rfl) rfl rfl ?_
      refine Pl_s rfl (wtdF rfl rfl rfl) rfl rfl ?_
      refine Pl_s rfl (wtdF rfl rfl rfl) rfl rfl ?_
      refine Pl_s rfl (wtdF rfl rfl rfl) rfl rfl ?_
      refine Pl_s rfl (wtdF rfl rfl rfl) rfl rfl ?_
      refine Pl_y rfl (wtd0 rfl) rfl rfl (y_pick_f rfl rfl rfl) ?_
      refine Pl_y rfl (wtd0 rfl) rfl rfl (y_assign rfl rfl) ?_
      refine Pl_nil (Th_n (hK2 _ _ ?_))
      refine Wp_ret (Fq_ret (Res1 rfl rfl) ?_)
      have he2 : rapart_m t a b = false := by
        unfold rapart_m
        all_goals rewrite [if_pos hc1]
        all_goals rewrite [if_neg hc2]
        all_goals rfl
      rewrite [he2]
      exact ⟨rfl, hF⟩
  · have hc1 : ¬ ((rnode_m t a) = true) := by first | simpa using hc1 | (intro hh; rw [hh] at hc1; cases hc1)
    refine Pl_s rfl (wtdF rfl rfl rfl) rfl rfl ?_
    refine Pl_s rfl (wtdF rfl rfl rfl) rfl rfl ?_
    refine Pl_s rfl (wtdF rfl rfl rfl) rfl rfl ?_
    refine Pl_y rfl (wtd0 rfl) rfl rfl (y_pick_f rfl rfl rfl) ?_
    refine Pl_y rfl (wtd0 rfl) rfl rfl (y_move rfl rfl) ?_
    refine Pl_s rfl (wtdF rfl rfl rfl) rfl rfl ?_
    refine Pl_s rfl (wtdF rfl rfl rfl) rfl rfl ?_
    refine Pl_s rfl (wtdF rfl rfl rfl) rfl rfl ?_
    refine Pl_s rfl (wtdF rfl rfl rfl) rfl rfl ?_
    refine Pl_s rfl (wtdF rfl rfl rfl) rfl rfl ?_
    refine Pl_s rfl (wtdF rfl rfl rfl) rfl rfl ?_
    refine Pl_s rfl (wtdF rfl rfl rfl) rfl rfl ?_
    refine Pl_s rfl (wtdF rfl rfl rfl) rfl rfl ?_
    refine Pl_s rfl (wtdF rfl rfl rfl) rfl rfl ?_
    refine Pl_s rfl (wtdF rfl rfl rfl) rfl rfl ?_
    refine Pl_s rfl (wtdF rfl rfl rfl) rfl rfl ?_
    refine Pl_s rfl (wtdF rfl rfl rfl) rfl rfl ?_
    refine Pl_s rfl (wtdF rfl rfl rfl) rfl rfl ?_
    refine Pl_s rfl (wtdF rfl rfl rfl) rfl rfl ?_
    refine Pl_s rfl (wtdF rfl rfl rfl) rfl rfl ?_
    refine Pl_y rfl (wtd0 rfl) rfl rfl (y_pick_f rfl rfl rfl) ?_
    refine Pl_y rfl (wtd0 rfl) rfl rfl (y_assign rfl rfl) ?_
    refine Pl_nil (Th_n (hK2 _ _ ?_))
    refine Wp_ret (Fq_ret (Res1 rfl rfl) ?_)
    have he3 : rapart_m t a b = false := by
      unfold rapart_m
      all_goals rewrite [if_neg hc1]
      all_goals rfl
    rewrite [he3]
    exact ⟨rfl, hF⟩

def rsend_m (t : NetM) (m : MsgV) : Int × NetM :=
  if (rnode_m t m.f) = true then
    if (rnode_m t m.t) = true then
      if m.f = m.t then
        (2, t)
      else
        if 32768 < (m.s.length : Int) then
          (8, t)
        else
          if (rapart_m t m.f m.t) = true then
            (9, (⟨t.c, t.l, t.count + 1⟩ : NetM))
          else
            if 128 ≤ (t.l.length : Int) then
              (4, (⟨t.c, t.l, t.count + 1⟩ : NetM))
            else
              (0, (⟨t.c, (([] : List MsgV) ++ t.l) ++ [m], t.count⟩ : NetM))
    else
      (2, t)
  else
    (2, t)

set_option maxRecDepth 20000 in
theorem rsend_ok (X : List Nat) (w : World) (g_t : Nat) (t : NetM) (A_t_c : Option Addr) (c_t_c : Nat) (sp_t_c : List Value) (A_t_l : Option Addr) (c_t_l : Nat) (m : MsgV) (hs : St X w [(some g_t, Cl [.slice A_t_c t.c.length c_t_c, .slice A_t_l t.l.length c_t_l, .int .i64 t.count] 118), (blkOf A_t_c, Cl (t.c.flatMap (fun x => [Value.int .i64 x]) ++ sp_t_c) 3)] [kS A_t_l t.l.length c_t_l 3 (t.l.flatMap msgC)]) (how_t_c : Ow A_t_c t.c.length c_t_c 1 (t.c.flatMap (fun x => [Value.int .i64 x])) sp_t_c) (hr : t.l.length ≤ 128) (hc : 0 ≤ t.count ∧ t.count ≤ 1000000) :
    Fn Try.prog 20 [.pointer (some ⟨g_t, 0, none⟩), .agg (msgC m).toArray] w fun v w' => ∃ (Ac' : Option Addr) (cc' : Nat) (spc' : List Value) (Al' : Option Addr) (cl' : Nat), v = .int .i64 ((rsend_m t m).1) ∧ Ow Ac' ((rsend_m t m).2).c.length cc' 1 (((rsend_m t m).2).c.flatMap (fun x => [Value.int .i64 x])) spc' ∧ St X w' [(some g_t, Cl [.slice Ac' ((rsend_m t m).2).c.length cc', .slice Al' ((rsend_m t m).2).l.length cl', .int .i64 (((rsend_m t m).2).count)] 118), (blkOf Ac', Cl (((rsend_m t m).2).c.flatMap (fun x => [Value.int .i64 x]) ++ spc') 3)] [kS Al' ((rsend_m t m).2).l.length cl' 3 (((rsend_m t m).2).l.flatMap msgC)] ∧ Fr (keys [(some g_t, Cl [.slice A_t_c t.c.length c_t_c, .slice A_t_l t.l.length c_t_l, .int .i64 t.count] 118), (blkOf A_t_c, Cl (t.c.flatMap (fun x => [Value.int .i64 x]) ++ sp_t_c) 3)]) w w' ∧ (∀ k ∈ keys [(some g_t, Cl [.slice Ac' ((rsend_m t m).2).c.length cc', .slice Al' ((rsend_m t m).2).l.length cl', .int .i64 (((rsend_m t m).2).count)] 118), (blkOf Ac', Cl (((rsend_m t m).2).c.flatMap (fun x => [Value.int .i64 x]) ++ spc') 3)], k ∈ (keys [(some g_t, Cl [.slice A_t_c t.c.length c_t_c, .slice A_t_l t.l.length c_t_l, .int .i64 t.count] 118), (blkOf A_t_c, Cl (t.c.flatMap (fun x => [Value.int .i64 x]) ++ sp_t_c) 3)]) ∨ w.heap.size ≤ k) := by
  refine Fn_of 70 Ty.en_20 Try.func20 rfl rfl rfl ?_
  dsimp only [argEnv]
  have hs0 := hs
  have st : St X w [(some g_t, Cl [.slice A_t_c t.c.length c_t_c, .slice A_t_l t.l.length c_t_l, .int .i64 t.count] 118), (blkOf A_t_c, Cl (t.c.flatMap (fun x => [Value.int .i64 x]) ++ sp_t_c) 3)] [kS A_t_l t.l.length c_t_l 3 (t.l.flatMap msgC)] := hs
  have hnewA_t_c : ∀ g, blkOf A_t_c = some g → g ∈ (keys [(some g_t, Cl [.slice A_t_c t.c.length c_t_c, .slice A_t_l t.l.length c_t_l, .int .i64 t.count] 118), (blkOf A_t_c, Cl (t.c.flatMap (fun x => [Value.int .i64 x]) ++ sp_t_c) 3)]) ∨ w.heap.size ≤ g := fun g hg => .inl (by simp [keys, hg])
  have hleA_t_c := Ow.le how_t_c
  have hF := Fr.refl (keys [(some g_t, Cl [.slice A_t_c t.c.length c_t_c, .slice A_t_l t.l.length c_t_l, .int .i64 t.count] 118), (blkOf A_t_c, Cl (t.c.flatMap (fun x => [Value.int .i64 x]) ++ sp_t_c) 3)]) w
  have hleA_t_l := (st.k (i := 0) rfl).le
  refine Wp_seq fun K1 hK1 => ?_
  refine Wp_region ?_
  refine Ls_a (wtd0 rfl) ?_
  refine a_box rfl rfl rfl rfl st.hp (fun g1 w1 (hp : Hp w1 [(_, Cl [_, _, _] _), _, (_, Cl [_, _, _] _)]) hf hg1 => ?_)
  have st : St X w1 [(_, Cl [_, _, _] _), _, (_, Cl [_, _, _] _)] [kS A_t_l t.l.length c_t_l 3 (t.l.flatMap msgC)] := st.push hp hf hg1
  have hg1 := Nat.le_trans hF.size hg1
  have hF := hF.step0 hf
  refine Ls_y (wtd0 rfl) rfl rfl (y_assign rfl rfl) ?_
  refine Ls_nil (Th_n (hK1 _ _ ?_))
  refine Wp_seq fun K2 hK2 => ?_
  refine Wp_block ?_
  refine Wp_seq fun K3 hK3 => ?_
  refine Wp_region ?_
  refine Ls_y (wtd0 rfl) rfl rfl (y_move rfl rfl) ?_
  refine Ls_y (wtd0 rfl) rfl rfl (y_fld rfl rfl Ty.fo_46_0) ?_
  refine Ls_y (wtd0 rfl) rfl rfl (y_load (i := 2) rfl rfl Ty.pl_3 (fun _ e => e ▸ st.hp) rfl rfl) ?_
  refine Ls_a (wtd0 rfl) ?_
  refine a_call rfl rfl rfl rfl (rnode_ok (keys (pickL (hOf st) [2]) ++ X) _ g_t t A_t_c c_t_c sp_t_c A_t_l c_t_l m.f (st.sub [2] [0, 1] [0] (by decide)) how_t_c) (fun v w2 ⟨hv, hf⟩ => ?_)
  subst hv
  have st := st.keep0 hf
  have hF := hF.step0 hf
  have st : St X w2 [(some g_t, Cl [.slice A_t_c t.c.length c_t_c, .slice A_t_l t.l.length c_t_l, .int .i64 t.count] 118), (blkOf A_t_c, Cl (t.c.flatMap (fun x => [Value.int .i64 x]) ++ sp_t_c) 3), (some g1, Cl [.int .i64 m.f, .int .i64 m.t, sv m.s] 46)] [kS A_t_l t.l.length c_t_l 3 (t.l.flatMap msgC)] := st
  refine Ls_y (wtd0 rfl) rfl rfl (y_not rfl rfl) ?_
  refine Ls_y (wtd0 rfl) rfl rfl (y_move rfl rfl) ?_
  refine Ls_bool 11 rfl (fun hc1 => ?_) (fun hc1 => ?_)
  · have hc1 : ¬ ((rnode_m t m.f) = true) := by first | simpa using hc1 | (intro hh; rw [hh] at hc1; cases hc1)
    refine Ls_s (wtdF rfl rfl rfl) rfl rfl ?_
    refine Ls_s (wtdF rfl rfl rfl) rfl rfl ?_
    refine Ls_s (wtdF rfl rfl rfl) rfl rfl ?_
    refine Ls_s (wtdF rfl rfl rfl) rfl rfl ?_
    refine Ls_s (wtdF rfl rfl rfl) rfl rfl ?_
    refine Ls_y (wtd0 rfl) rfl rfl (y_pick_t rfl rfl rfl) ?_
    refine Ls_y (wtd0 rfl) rfl rfl (y_move rfl rfl) ?_
    refine Ls_s (wtdF rfl rfl rfl) rfl rfl ?_
    refine Ls_s (wtdF rfl rfl rfl) rfl rfl ?_
    refine Ls_s (wtdF rfl rfl rfl) rfl rfl ?_
    refine Ls_s (wtdF rfl rfl rfl) rfl rfl ?_
    refine Ls_s (wtdF rfl rfl rfl) rfl rfl ?_
    refine Ls_y (wtd0 rfl) rfl rfl (y_pick_t rfl rfl rfl) ?_
    refine Ls_y (wtd0 rfl) rfl rfl (y_assign rfl rfl) ?_
    refine Ls_nil (Th_n (hK3 _ _ ?_))
    refine Wp_cond_t rfl ?_
    refine Wp_seq fun K4 hK4 => ?_
    refine Wp_region ?_
    refine Ls_y (wtd0 rfl) rfl rfl (y_assign rfl rfl) ?_
    refine Ls_nil (Th_n (hK4 _ _ ?_))
    refine Wp_ret (Ib_r (Th_r (Fq_ret (Res1 rfl rfl) ?_)))
    have he1 : rsend_m t m = (2, t) := by
      unfold rsend_m
      all_goals rewrite [if_neg hc1]
      all_goals rfl
    rewrite [he1]
    exact ⟨_, _, _, _, _, rfl, how_t_c, (st.picks [0, 1] (by decide)).pickK [0], hF, kc_s (.inl (by simp [keys])) (kc_b hnewA_t_c (kc_n))⟩
  · have hc1 : (rnode_m t m.f) = true := by first | simpa using hc1 | (intro hh; rw [hh] at hc1; cases hc1)
    have khc1 := (rnode_iff _ _).1 hc1
    refine Ls_y (wtdT rfl rfl rfl) rfl rfl (y_move rfl rfl) ?_
    refine Ls_y (wtdT rfl rfl rfl) rfl rfl (y_fld rfl rfl Ty.fo_46_1) ?_
    refine Ls_y (wtdT rfl rfl rfl) rfl rfl (y_load (i := 2) rfl rfl Ty.pl_3 (fun _ e => e ▸ st.hp) rfl rfl) ?_
    refine Ls_a (wtdT rfl rfl rfl) ?_
    refine a_call rfl rfl rfl rfl (rnode_ok (keys (pickL (hOf st) [2]) ++ X) _ g_t t A_t_c c_t_c sp_t_c A_t_l c_t_l m.t (st.sub [2] [0, 1] [0] (by decide)) how_t_c) (fun v w3 ⟨hv, hf⟩ => ?_)
    subst hv
    have st := st.keep0 hf
    have hF := hF.step0 hf
    have st : St X w3 [(some g_t, Cl [.slice A_t_c t.c.length c_t_c, .slice A_t_l t.l.length c_t_l, .int .i64 t.count] 118), (blkOf A_t_c, Cl (t.c.flatMap (fun x => [Value.int .i64 x]) ++ sp_t_c) 3), (some g1, Cl [.int .i64 m.f, .int .i64 m.t, sv m.s] 46)] [kS A_t_l t.l.length c_t_l 3 (t.l.flatMap msgC)] := st
    refine Ls_y (wtdT rfl rfl rfl) rfl rfl (y_not rfl rfl) ?_
    refine Ls_y (wtd0 rfl) rfl rfl (y_pick_f rfl rfl rfl) ?_
    refine Ls_y (wtd0 rfl) rfl rfl (y_move rfl rfl) ?_
    refine Ls_bool 18 rfl (fun hc2 => ?_) (fun hc2 => ?_)
    · have hc2 : ¬ ((rnode_m t m.t) = true) := by first | simpa using hc2 | (intro hh; rw [hh] at hc2; cases hc2)
      refine Ls_s (wtdF rfl rfl rfl) rfl rfl ?_
      refine Ls_s (wtdF rfl rfl rfl) rfl rfl ?_
      refine Ls_s (wtdF rfl rfl rfl) rfl rfl ?_
      refine Ls_s (wtdF rfl rfl rfl) rfl rfl ?_
      refine Ls_s (wtdF rfl rfl rfl) rfl rfl ?_
      refine Ls_y (wtd0 rfl) rfl rfl (y_pick_t rfl rfl rfl) ?_
      refine Ls_y (wtd0 rfl) rfl rfl (y_assign rfl rfl) ?_
      refine Ls_nil (Th_n (hK3 _ _ ?_))
      refine Wp_cond_t rfl ?_
      refine Wp_seq fun K5 hK5 => ?_
      refine Wp_region ?_
      refine Ls_y (wtd0 rfl) rfl rfl (y_assign rfl rfl) ?_
      refine Ls_nil (Th_n (hK5 _ _ ?_))
      refine Wp_ret (Ib_r (Th_r (Fq_ret (Res1 rfl rfl) ?_)))
      have he2 : rsend_m t m = (2, t) := by
        unfold rsend_m
        all_goals rewrite [if_pos hc1]
        all_goals rewrite [if_neg hc2]
        all_goals rfl
      rewrite [he2]
      exact ⟨_, _, _, _, _, rfl, how_t_c, (st.picks [0, 1] (by decide)).pickK [0], hF, kc_s (.inl (by simp [keys])) (kc_b hnewA_t_c (kc_n))⟩
    · have hc2 : (rnode_m t m.t) = true := by first | simpa using hc2 | (intro hh; rw [hh] at hc2; cases hc2)
      have khc2 := (rnode_iff _ _).1 hc2
      refine Ls_y (wtdT rfl rfl rfl) rfl rfl (y_fld rfl rfl Ty.fo_46_0) ?_
      refine Ls_y (wtdT rfl rfl rfl) rfl rfl (y_load (i := 2) rfl rfl Ty.pl_3 (fun _ e => e ▸ st.hp) rfl rfl) ?_
      refine Ls_y (wtdT rfl rfl rfl) rfl rfl (y_fld rfl rfl Ty.fo_46_1) ?_
      refine Ls_y (wtdT rfl rfl rfl) rfl rfl (y_load (i := 2) rfl rfl Ty.pl_3 (fun _ e => e ▸ st.hp) rfl rfl) ?_
      refine Ls_y (wtdT rfl rfl rfl) rfl rfl (y_eq rfl rfl rfl) ?_
      refine Ls_y (wtd0 rfl) rfl rfl (y_pick_f rfl rfl rfl) ?_
      refine Ls_y (wtd0 rfl) rfl rfl (y_assign rfl rfl) ?_
      refine Ls_nil (Th_n (hK3 _ _ ?_))
      refine Wp_cond rfl (fun hc3 => ?_) (fun hc3 => ?_)
      · have hc3 : m.f = m.t := by first | simpa using hc3 | (intro hh; rw [hh] at hc3; cases hc3)
        refine Wp_seq fun K6 hK6 => ?_
        refine Wp_region ?_
        refine Ls_y (wtd0 rfl) rfl rfl (y_assign rfl rfl) ?_
        refine Ls_nil (Th_n (hK6 _ _ ?_))
        refine Wp_ret (Ib_r (Th_r (Fq_ret (Res1 rfl rfl) ?_)))
        have he3 : rsend_m t m = (2, t) := by
          unfold rsend_m
          all_goals rewrite [if_pos hc1]
          all_goals rewrite [if_pos hc2]
          all_goals rewrite [if_pos hc3]
          all_goals rfl
        rewrite [he3]
        exact ⟨_, _, _, _, _, rfl, how_t_c, (st.picks [0, 1] (by decide)).pickK [0], hF, kc_s (.inl (by simp [keys])) (kc_b hnewA_t_c (kc_n))⟩
      · have hc3 : ¬ (m.f = m.t) := by first | simpa using hc3 | (intro hh; rw [hh] at hc3; cases hc3)
        refine Wp_seq fun K7 hK7 => ?_
        refine Wp_region ?_
        refine Ls_y (wtd0 rfl) rfl rfl (y_fld rfl rfl Ty.fo_46_2) ?_
        refine Ls_y (wtd0 rfl) rfl rfl (y_load (i := 2) rfl rfl Ty.pl_9 (fun _ e => e ▸ st.hp) rfl rfl) ?_
        refine Ls_y (wtd0 rfl) rfl rfl (y_lens rfl rfl Try.underlying9) ?_
        refine Ls_y (wtd0 rfl) rfl rfl (y_gt rfl rfl rfl) ?_
        refine Ls_y (wtd0 rfl) rfl rfl (y_assign rfl rfl) ?_
        refine Ls_nil (Th_n (hK7 _ _ ?_))
        refine Wp_cond rfl (fun hc4 => ?_) (fun hc4 => ?_)
        · have hc4 : 32768 < (m.s.length : Int) := by first | simpa using hc4 | (intro hh; rw [hh] at hc4; cases hc4)
          refine Wp_seq fun K8 hK8 => ?_
          refine Wp_region ?_
          refine Ls_y (wtd0 rfl) rfl rfl (y_assign rfl rfl) ?_
          refine Ls_nil (Th_n (hK8 _ _ ?_))
          refine Wp_ret (Ib_r (Th_r (Fq_ret (Res1 rfl rfl) ?_)))
          have he4 : rsend_m t m = (8, t) := by
            unfold rsend_m
            all_goals rewrite [if_pos hc1]
            all_goals rewrite [if_pos hc2]
            all_goals rewrite [if_neg hc3]
            all_goals rewrite [if_pos hc4]
            all_goals rfl
          rewrite [he4]
          exact ⟨_, _, _, _, _, rfl, how_t_c, (st.picks [0, 1] (by decide)).pickK [0], hF, kc_s (.inl (by simp [keys])) (kc_b hnewA_t_c (kc_n))⟩
        · have hc4 : ¬ (32768 < (m.s.length : Int)) := by first | simpa using hc4 | (intro hh; rw [hh] at hc4; cases hc4)
          refine Wp_seq fun K9 hK9 => ?_
          refine Wp_region ?_
          refine Ls_y (wtd0 rfl) rfl rfl (y_move rfl rfl) ?_
          refine Ls_y (wtd0 rfl) rfl rfl (y_fld rfl rfl Ty.fo_46_0) ?_
          refine Ls_y (wtd0 rfl) rfl rfl (y_load (i := 2) rfl rfl Ty.pl_3 (fun _ e => e ▸ st.hp) rfl rfl) ?_
          refine Ls_y (wtd0 rfl) rfl rfl (y_fld rfl rfl Ty.fo_46_1) ?_
          refine Ls_y (wtd0 rfl) rfl rfl (y_load (i := 2) rfl rfl Ty.pl_3 (fun _ e => e ▸ st.hp) rfl rfl) ?_
          refine Ls_a (wtd0 rfl) ?_
          refine a_call rfl rfl rfl rfl (rapart_ok (keys (pickL (hOf st) [2]) ++ X) _ g_t t A_t_c c_t_c sp_t_c A_t_l c_t_l m.f m.t (st.sub [2] [0, 1] [0] (by decide)) how_t_c) (fun v w4 ⟨hv, hf⟩ => ?_)
          subst hv
          have st := st.keep0 hf
          have hF := hF.step0 hf
          have st : St X w4 [(some g_t, Cl [.slice A_t_c t.c.length c_t_c, .slice A_t_l t.l.length c_t_l, .int .i64 t.count] 118), (blkOf A_t_c, Cl (t.c.flatMap (fun x => [Value.int .i64 x]) ++ sp_t_c) 3), (some g1, Cl [.int .i64 m.f, .int .i64 m.t, sv m.s] 46)] [kS A_t_l t.l.length c_t_l 3 (t.l.flatMap msgC)] := st
          refine Ls_y (wtd0 rfl) rfl rfl (y_assign rfl rfl) ?_
          refine Ls_nil (Th_n (hK9 _ _ ?_))
          refine Wp_cond rfl (fun hc5 => ?_) (fun hc5 => ?_)
          · have hc5 : (rapart_m t m.f m.t) = true := by first | simpa using hc5 | (intro hh; rw [hh] at hc5; cases hc5)
            refine Wp_seq fun K10 hK10 => ?_
            refine Wp_region ?_
            refine Ls_y (wtd0 rfl) rfl rfl (y_move rfl rfl) ?_
            refine Ls_y (wtd0 rfl) rfl rfl (y_nil rfl rfl) ?_
            refine Ls_y (wtd0 rfl) rfl rfl (y_fld rfl rfl Ty.fo_118_2) ?_
            refine Ls_y (wtd0 rfl) rfl rfl (y_load (i := 0) rfl rfl Ty.pl_3 (fun _ e => e ▸ st.hp) rfl rfl) ?_
            refine Ls_y (wtd0 rfl) rfl rfl (y_add (c := t.count + 1) rfl rfl rfl (wf_i64 (by first | omega | (simp; done) | (simp; omega)))) ?_
            refine Ls_y (wtd0 rfl) rfl rfl (y_nil rfl rfl) ?_
            refine Ls_y (wtd0 rfl) rfl rfl (y_fld rfl rfl Ty.fo_118_2) ?_
            refine Ls_a (wtd0 rfl) ?_
            refine a_store (i := 0) rfl rfl rfl rfl rfl Ty.sz_3 rfl st.hp rfl (by simp) (fun w5 (hp : Hp w5 [(_, Cl [_, _, _] _), _, (_, Cl [_, _, _] _)]) hf _ => ?_)
            have st : St X w5 [(_, Cl [_, _, _] _), _, (_, Cl [_, _, _] _)] [kS A_t_l t.l.length c_t_l 3 (t.l.flatMap msgC)] := st.set (i := 0) rfl hp hf
            have hF := hF.step hf (by intro y hy; simp only [List.mem_cons, List.not_mem_nil, or_false] at hy; subst hy; first | (exact Or.inr (by omega)) | (exact Or.inl (kin0 _ _)) | (exact Or.inl (by simp)))
            refine Ls_nil (Th_n (hK10 _ _ ?_))
            refine Wp_seq fun K11 hK11 => ?_
            refine Wp_region ?_
            refine Ls_y (wtd0 rfl) rfl rfl (y_assign rfl rfl) ?_
            refine Ls_nil (Th_n (hK11 _ _ ?_))
            refine Wp_ret (Ib_r (Th_r (Fq_ret (Res1 rfl rfl) ?_)))
            have he5 : rsend_m t m = (9, (⟨t.c, t.l, t.count + 1⟩ : NetM)) := by
              unfold rsend_m
              all_goals rewrite [if_pos hc1]
              all_goals rewrite [if_pos hc2]
              all_goals rewrite [if_neg hc3]
              all_goals rewrite [if_neg hc4]
              all_goals rewrite [if_pos hc5]
              all_goals rfl
            rewrite [he5]
            exact ⟨_, _, _, _, _, rfl, how_t_c, (st.picks [0, 1] (by decide)).pickK [0], hF, kc_s (.inl (by simp [keys])) (kc_b hnewA_t_c (kc_n))⟩
          · have hc5 : ¬ ((rapart_m t m.f m.t) = true) := by first | simpa using hc5 | (intro hh; rw [hh] at hc5; cases hc5)
            refine Wp_seq fun K12 hK12 => ?_
            refine Wp_region ?_
            refine Ls_y (wtd0 rfl) rfl rfl (y_move rfl rfl) ?_
            refine Ls_y (wtd0 rfl) rfl rfl (y_nil rfl rfl) ?_
            refine Ls_y (wtd0 rfl) rfl rfl (y_fld rfl rfl Ty.fo_118_1) ?_
            refine Ls_y (wtd0 rfl) rfl rfl (y_load (i := 0) rfl rfl Ty.pl_116 (fun _ e => e ▸ st.hp) rfl rfl) ?_
            refine Ls_y (wtd0 rfl) rfl rfl (y_lenl rfl rfl Try.underlying116) ?_
            refine Ls_y (wtd0 rfl) rfl rfl (y_ge rfl rfl rfl) ?_
            refine Ls_y (wtd0 rfl) rfl rfl (y_assign rfl rfl) ?_
            refine Ls_nil (Th_n (hK12 _ _ ?_))
            refine Wp_cond rfl (fun hc6 => ?_) (fun hc6 => ?_)
            · have hc6 : 128 ≤ (t.l.length : Int) := by first | simpa using hc6 | (intro hh; rw [hh] at hc6; cases hc6)
              refine Wp_seq fun K13 hK13 => ?_
              refine Wp_region ?_
              refine Ls_y (wtd0 rfl) rfl rfl (y_move rfl rfl) ?_
              refine Ls_y (wtd0 rfl) rfl rfl (y_nil rfl rfl) ?_
              refine Ls_y (wtd0 rfl) rfl rfl (y_fld rfl rfl Ty.fo_118_2) ?_
              refine Ls_y (wtd0 rfl) rfl rfl (y_load (i := 0) rfl rfl Ty.pl_3 (fun _ e => e ▸ st.hp) rfl rfl) ?_
              refine Ls_y (wtd0 rfl) rfl rfl (y_add (c := t.count + 1) rfl rfl rfl (wf_i64 (by first | omega | (simp; done) | (simp; omega)))) ?_
              refine Ls_y (wtd0 rfl) rfl rfl (y_nil rfl rfl) ?_
              refine Ls_y (wtd0 rfl) rfl rfl (y_fld rfl rfl Ty.fo_118_2) ?_
              refine Ls_a (wtd0 rfl) ?_
              refine a_store (i := 0) rfl rfl rfl rfl rfl Ty.sz_3 rfl st.hp rfl (by simp) (fun w6 (hp : Hp w6 [(_, Cl [_, _, _] _), _, (_, Cl [_, _, _] _)]) hf _ => ?_)
              have st : St X w6 [(_, Cl [_, _, _] _), _, (_, Cl [_, _, _] _)] [kS A_t_l t.l.length c_t_l 3 (t.l.flatMap msgC)] := st.set (i := 0) rfl hp hf
              have hF := hF.step hf (by intro y hy; simp only [List.mem_cons, List.not_mem_nil, or_false] at hy; subst hy; first | (exact Or.inr (by omega)) | (exact Or.inl (kin0 _ _)) | (exact Or.inl (by simp)))
              refine Ls_nil (Th_n (hK13 _ _ ?_))
              refine Wp_seq fun K14 hK14 => ?_
              refine Wp_region ?_
              refine Ls_y (wtd0 rfl) rfl rfl (y_assign rfl rfl) ?_
              refine Ls_nil (Th_n (hK14 _ _ ?_))
              refine Wp_ret (Ib_r (Th_r (Fq_ret (Res1 rfl rfl) ?_)))
              have he6 : rsend_m t m = (4, (⟨t.c, t.l, t.count + 1⟩ : NetM)) := by
                unfold rsend_m
                all_goals rewrite [if_pos hc1]
                all_goals rewrite [if_pos hc2]
                all_goals rewrite [if_neg hc3]
                all_goals rewrite [if_neg hc4]
                all_goals rewrite [if_neg hc5]
                all_goals rewrite [if_pos hc6]
                all_goals rfl
              rewrite [he6]
              exact ⟨_, _, _, _, _, rfl, how_t_c, (st.picks [0, 1] (by decide)).pickK [0], hF, kc_s (.inl (by simp [keys])) (kc_b hnewA_t_c (kc_n))⟩
            · have hc6 : ¬ (128 ≤ (t.l.length : Int)) := by first | simpa using hc6 | (intro hh; rw [hh] at hc6; cases hc6)
              refine Wp_skip (Ib_n (Th_n (hK2 _ _ ?_)))
              refine Wp_seq fun K15 hK15 => ?_
              refine Wp_pf (fun W => St X W (pickL (hOf st) [0, 1, 2]) (kOf st)) 13 12 rfl (by kernel_rfl) Ty.mx_0 ((st.picks [0, 1, 2] (by decide)).drew) ?_
              have st := st.drew
              have hF := hF.step0 (Fr.drew _)
              refine Pf_y (i := 0) rfl (by kernel_rfl) (wtd0 rfl) rfl rfl (y_move rfl rfl) ?_
              refine Pf_y (i := 2) rfl (by kernel_rfl) (wtd0 rfl) rfl rfl (y_move rfl rfl) ?_
              refine Pf_y (i := 3) rfl (by kernel_rfl) (wtd0 rfl) rfl rfl (y_nil rfl rfl) ?_
              refine Pf_y (i := 4) rfl (by kernel_rfl) (wtd0 rfl) rfl rfl (y_fld rfl rfl Ty.fo_118_1) ?_
              refine Pf_y (i := 5) rfl (by kernel_rfl) (wtd0 rfl) rfl rfl (y_load (i := 0) rfl rfl Ty.pl_116 (fun _ h => h.hp) rfl rfl) ?_
              refine Pf_y (i := 7) rfl (by kernel_rfl) (wtd0 rfl) rfl rfl (y_loadw (i := 2) rfl rfl Ty.ag_46 (fun _ h => h.hp) rfl rfl) ?_
              refine Pf_a2 (i := 1) (j := 8) (by kernel_rfl) rfl (wtd0 rfl) rfl (wtd0 rfl) ?_ ?_
              · refine a_bsl0 rfl rfl rfl Ty.es_116 Ty.zc_46 st.hp (fun g2 w7 (hp : Hp w7 [(_, Cl [_, _, _] _), _, (_, Cl [_, _, _] _), _]) hf hg2 => ?_)
                have how1 : Ow (some ⟨g2, 0, none⟩) ([] : List MsgV).length 0 3 (([] : List MsgV).flatMap msgC) [] := ⟨rfl, .inr ⟨g2, rfl, rfl, Nat.le_refl _, by unfold maxLen; decide⟩⟩
                have st : St X w7 [(_, Cl [_, _, _] _), _, (_, Cl [_, _, _] _), _] [kS A_t_l t.l.length c_t_l 3 (t.l.flatMap msgC)] := st.push hp hf hg2
                have st : St X w7 [(some g_t, Cl [.slice A_t_c t.c.length c_t_c, .slice A_t_l t.l.length c_t_l, .int .i64 t.count] 118), (blkOf A_t_c, Cl (t.c.flatMap (fun x => [Value.int .i64 x]) ++ sp_t_c) 3), (some g1, Cl [.int .i64 m.f, .int .i64 m.t, sv m.s] 46), (blkOf (some ⟨g2, 0, none⟩), Cl (([] : List MsgV).flatMap msgC ++ []) 46)] [kS A_t_l t.l.length c_t_l 3 (t.l.flatMap msgC)] := st
                have hg2 := Nat.le_trans hF.size hg2
                have hF := hF.step0 hf
                have hnew1 : ∀ g, blkOf (some ⟨g2, 0, none⟩) = some g → g ∈ (keys [(some g_t, Cl [.slice A_t_c t.c.length c_t_c, .slice A_t_l t.l.length c_t_l, .int .i64 t.count] 118), (blkOf A_t_c, Cl (t.c.flatMap (fun x => [Value.int .i64 x]) ++ sp_t_c) 3)]) ∨ w.heap.size ≤ g := fun g hg => by simp [blkOf] at hg; subst hg; exact .inr hg2
                refine ⟨(st.picks [0, 1, 2] (by decide)).takeK 1, ?_⟩
                refine Pf_a2 (i := 6) (j := 8) (by kernel_rfl) rfl (wtd0 rfl) rfl (wtd0 rfl) ?_ ?_
                · refine a_appM (i := 3) (xs := ([] : List MsgV)) (ys := t.l) (enc := msgC) rfl rfl rfl rfl rfl rfl Ty.es_116 Ty.zc_46 rfl Ty.by_46 (by decide) (fun _ => rfl) how1 st.hp rfl (st.k (i := 0) rfl).rd.src (fun h => by have := (st.k (i := 0) rfl).rd; exact rd_none this h (st.k (i := 0) rfl).len (by decide)) (by intro x v hv; simp only [msgC, List.mem_cons, List.not_mem_nil, or_false] at hv; rcases hv with rfl | rfl | rfl <;> rfl) (by first | (unfold maxLen; omega) | (simp [maxLen]; omega)) (by first | (unfold maxLen; omega) | (simp [maxLen]; omega)) (fun Aa1 ca1 sp1 w8 how2 (hp : Hp w8 [(_, Cl [_, _, _] _), _, (_, Cl [_, _, _] _), _]) hf hnw1 => ?_)
                  have st : St X w8 [(_, Cl [_, _, _] _), _, (_, Cl [_, _, _] _), _] [kS A_t_l t.l.length c_t_l 3 (t.l.flatMap msgC)] := st.setAny (i := 3) rfl hp hf hnw1
                  have st : St X w8 [(some g_t, Cl [.slice A_t_c t.c.length c_t_c, .slice A_t_l t.l.length c_t_l, .int .i64 t.count] 118), (blkOf A_t_c, Cl (t.c.flatMap (fun x => [Value.int .i64 x]) ++ sp_t_c) 3), (some g1, Cl [.int .i64 m.f, .int .i64 m.t, sv m.s] 46), (blkOf Aa1, Cl ((([] : List MsgV) ++ t.l).flatMap msgC ++ sp1) 46)] [kS A_t_l t.l.length c_t_l 3 (t.l.flatMap msgC)] := st
                  have hnew2 : ∀ g, blkOf Aa1 = some g → g ∈ (keys [(some g_t, Cl [.slice A_t_c t.c.length c_t_c, .slice A_t_l t.l.length c_t_l, .int .i64 t.count] 118), (blkOf A_t_c, Cl (t.c.flatMap (fun x => [Value.int .i64 x]) ++ sp_t_c) 3)]) ∨ w.heap.size ≤ g := fun g hg => (hnw1 g hg).elim (hnew1 g) (fun h => .inr (Nat.le_trans hF.size h))
                  have hF := hF.step hf (fun y hy => hnew1 y (by simpa using hy))
                  refine ⟨(st.picks [0, 1, 2] (by decide)).takeK 1, ?_⟩
                  refine Pf_a (i := 8) (by kernel_rfl) rfl (wtd0 rfl) ?_
                  refine a_bsls (us := [.int .i64 m.f, .int .i64 m.t, sv m.s]) rfl rfl rfl rfl Ty.es_116 Ty.zc_46 rfl (by decide) st.hp (fun g3 w9 (hp : Hp w9 [(_, Cl [_, _, _] _), _, (_, Cl [_, _, _] _), _, _]) hf hg3 => ?_)
                  have how3 : Ow (some ⟨g3, 0, none⟩) [m].length 1 3 ([m].flatMap msgC) [] := ⟨rfl, .inr ⟨g3, rfl, rfl, Nat.le_refl _, by unfold maxLen; decide⟩⟩
                  have st : St X w9 [(_, Cl [_, _, _] _), _, (_, Cl [_, _, _] _), _, _] [kS A_t_l t.l.length c_t_l 3 (t.l.flatMap msgC)] := st.push hp hf hg3
                  have st : St X w9 [(some g_t, Cl [.slice A_t_c t.c.length c_t_c, .slice A_t_l t.l.length c_t_l, .int .i64 t.count] 118), (blkOf A_t_c, Cl (t.c.flatMap (fun x => [Value.int .i64 x]) ++ sp_t_c) 3), (some g1, Cl [.int .i64 m.f, .int .i64 m.t, sv m.s] 46), (blkOf Aa1, Cl ((([] : List MsgV) ++ t.l).flatMap msgC ++ sp1) 46), (blkOf (some ⟨g3, 0, none⟩), Cl ([m].flatMap msgC ++ []) 46)] [kS A_t_l t.l.length c_t_l 3 (t.l.flatMap msgC)] := st
                  have hg3 := Nat.le_trans hF.size hg3
                  have hF := hF.step0 hf
                  have hnew3 : ∀ g, blkOf (some ⟨g3, 0, none⟩) = some g → g ∈ (keys [(some g_t, Cl [.slice A_t_c t.c.length c_t_c, .slice A_t_l t.l.length c_t_l, .int .i64 t.count] 118), (blkOf A_t_c, Cl (t.c.flatMap (fun x => [Value.int .i64 x]) ++ sp_t_c) 3)]) ∨ w.heap.size ≤ g := fun g hg => by simp [blkOf] at hg; subst hg; exact .inr hg3
                  refine ⟨(st.picks [0, 1, 2] (by decide)).takeK 1, ?_⟩
                  refine Pf_a (i := 9) (by kernel_rfl) rfl (wtd0 rfl) ?_
                  refine a_appM (i := 3) (xs := ([] : List MsgV) ++ t.l) (ys := [m]) (enc := msgC) rfl rfl rfl rfl rfl rfl Ty.es_116 Ty.zc_46 rfl Ty.by_46 (by decide) (fun _ => rfl) how2 st.hp rfl (own_src (i := 4) st.hp rfl how3) (own_none how3) (by intro x v hv; simp only [msgC, List.mem_cons, List.not_mem_nil, or_false] at hv; rcases hv with rfl | rfl | rfl <;> rfl) (by first | (unfold maxLen; omega) | (simp [maxLen]; omega)) (by first | (unfold maxLen; omega) | (simp [maxLen]; omega)) (fun Aa2 ca2 sp2 w10 how4 (hp : Hp w10 [(_, Cl [_, _, _] _), _, (_, Cl [_, _, _] _), _, _]) hf hnw2 => ?_)
                  have st : St X w10 [(_, Cl [_, _, _] _), _, (_, Cl [_, _, _] _), _, _] [kS A_t_l t.l.length c_t_l 3 (t.l.flatMap msgC)] := st.setAny (i := 3) rfl hp hf hnw2
                  have st : St X w10 [(some g_t, Cl [.slice A_t_c t.c.length c_t_c, .slice A_t_l t.l.length c_t_l, .int .i64 t.count] 118), (blkOf A_t_c, Cl (t.c.flatMap (fun x => [Value.int .i64 x]) ++ sp_t_c) 3), (some g1, Cl [.int .i64 m.f, .int .i64 m.t, sv m.s] 46), (blkOf Aa2, Cl (((([] : List MsgV) ++ t.l) ++ [m]).flatMap msgC ++ sp2) 46), (blkOf (some ⟨g3, 0, none⟩), Cl ([m].flatMap msgC ++ []) 46)] [kS A_t_l t.l.length c_t_l 3 (t.l.flatMap msgC)] := st
                  have hnew4 : ∀ g, blkOf Aa2 = some g → g ∈ (keys [(some g_t, Cl [.slice A_t_c t.c.length c_t_c, .slice A_t_l t.l.length c_t_l, .int .i64 t.count] 118), (blkOf A_t_c, Cl (t.c.flatMap (fun x => [Value.int .i64 x]) ++ sp_t_c) 3)]) ∨ w.heap.size ≤ g := fun g hg => (hnw2 g hg).elim (hnew2 g) (fun h => .inr (Nat.le_trans hF.size h))
                  have hF := hF.step hf (fun y hy => hnew2 y (by simpa using hy))
                  refine ⟨(st.picks [0, 1, 2] (by decide)).takeK 1, ?_⟩
                  refine Pf_y (i := 10) rfl (by kernel_rfl) (wtd0 rfl) rfl rfl (y_nil rfl rfl) ?_
                  refine Pf_y (i := 11) rfl (by kernel_rfl) (wtd0 rfl) rfl rfl (y_fld rfl rfl Ty.fo_118_1) ?_
                  refine Pf_fin (by kernel_rfl) (by kernel_rfl) rfl (wtd0 rfl) ?_
                  refine a_store (i := 0) rfl rfl rfl rfl rfl Ty.sz_116 rfl st.hp rfl (by simp) (fun w11 (hp : Hp w11 [(_, Cl [_, _, _] _), _, (_, Cl [_, _, _] _), _, _]) hf _ => ?_)
                  have st : St X w11 [(_, Cl [_, _, _] _), _, (_, Cl [_, _, _] _), _, _] [kS A_t_l t.l.length c_t_l 3 (t.l.flatMap msgC)] := st.set (i := 0) rfl hp hf
                  have hF := hF.step hf (by intro y hy; simp only [List.mem_cons, List.not_mem_nil, or_false] at hy; subst hy; first | (exact Or.inr (by omega)) | (exact Or.inl (kin0 _ _)) | (exact Or.inl (by simp)))
                  refine id (Th_n (hK15 _ _ ?_))
                  refine Wp_seq fun K16 hK16 => ?_
                  refine Wp_region ?_
                  refine Ls_y (wtd0 rfl) rfl rfl (y_assign rfl rfl) ?_
                  refine Ls_nil (Th_n (hK16 _ _ ?_))
                  refine Wp_ret (Fq_ret (Res1 rfl rfl) ?_)
                  have st : St X w11 [(_, Cl [_, _, _] _), _, (_, Cl [_, _, _] _), _] [kS A_t_l t.l.length c_t_l 3 (t.l.flatMap msgC), kS Aa2 (((([] : List MsgV) ++ t.l) ++ [m]).length) ca2 3 (((([] : List MsgV) ++ t.l) ++ [m]).flatMap msgC)] := st.freeze (i := 3) [0, 1, 2, 4] (by decide) rfl how4 (by decide)
                  have he7 : rsend_m t m = (0, (⟨t.c, (([] : List MsgV) ++ t.l) ++ [m], t.count⟩ : NetM)) := by
                    unfold rsend_m
                    all_goals rewrite [if_pos hc1]
                    all_goals rewrite [if_pos hc2]
                    all_goals rewrite [if_neg hc3]
                    all_goals rewrite [if_neg hc4]
                    all_goals rewrite [if_neg hc5]
                    all_goals rewrite [if_neg hc6]
                    all_goals rfl
                  rewrite [he7]
                  exact ⟨_, _, _, _, _, rfl, how_t_c, (st.picks [0, 1] (by decide)).pickK [1], hF, kc_s (.inl (by simp [keys])) (kc_b hnewA_t_c (kc_n))⟩
                · refine a_bsls (us := [.int .i64 m.f, .int .i64 m.t, sv m.s]) rfl rfl rfl rfl Ty.es_116 Ty.zc_46 rfl (by decide) st.hp (fun g4 w12 (hp : Hp w12 [(_, Cl [_, _, _] _), _, (_, Cl [_, _, _] _), _, _]) hf hg4 => ?_)
                  have how5 : Ow (some ⟨g4, 0, none⟩) [m].length 1 3 ([m].flatMap msgC) [] := ⟨rfl, .inr ⟨g4, rfl, rfl, Nat.le_refl _, by unfold maxLen; decide⟩⟩
                  have st : St X w12 [(_, Cl [_, _, _] _), _, (_, Cl [_, _, _] _), _, _] [kS A_t_l t.l.length c_t_l 3 (t.l.flatMap msgC)] := st.push hp hf hg4
                  have st : St X w12 [(some g_t, Cl [.slice A_t_c t.c.length c_t_c, .slice A_t_l t.l.length c_t_l, .int .i64 t.count] 118), (blkOf A_t_c, Cl (t.c.flatMap (fun x => [Value.int .i64 x]) ++ sp_t_c) 3), (some g1, Cl [.int .i64 m.f, .int .i64 m.t, sv m.s] 46), (blkOf (some ⟨g2, 0, none⟩), Cl (([] : List MsgV).flatMap msgC ++ []) 46), (blkOf (some ⟨g4, 0, none⟩), Cl ([m].flatMap msgC ++ []) 46)] [kS A_t_l t.l.length c_t_l 3 (t.l.flatMap msgC)] := st
                  have hg4 := Nat.le_trans hF.size hg4
                  have hF := hF.step0 hf
                  have hnew5 : ∀ g, blkOf (some ⟨g4, 0, none⟩) = some g → g ∈ (keys [(some g_t, Cl [.slice A_t_c t.c.length c_t_c, .slice A_t_l t.l.length c_t_l, .int .i64 t.count] 118), (blkOf A_t_c, Cl (t.c.flatMap (fun x => [Value.int .i64 x]) ++ sp_t_c) 3)]) ∨ w.heap.size ≤ g := fun g hg => by simp [blkOf] at hg; subst hg; exact .inr hg4
                  refine ⟨(st.picks [0, 1, 2] (by decide)).takeK 1, ?_⟩
                  refine Pf_a (i := 6) (by kernel_rfl) rfl (wtd0 rfl) ?_
                  refine a_appM (i := 3) (xs := ([] : List MsgV)) (ys := t.l) (enc := msgC) rfl rfl rfl rfl rfl rfl Ty.es_116 Ty.zc_46 rfl Ty.by_46 (by decide) (fun _ => rfl) how1 st.hp rfl (st.k (i := 0) rfl).rd.src (fun h => by have := (st.k (i := 0) rfl).rd; exact rd_none this h (st.k (i := 0) rfl).len (by decide)) (by intro x v hv; simp only [msgC, List.mem_cons, List.not_mem_nil, or_false] at hv; rcases hv with rfl | rfl | rfl <;> rfl) (by first | (unfold maxLen; omega) | (simp [maxLen]; omega)) (by first | (unfold maxLen; omega) | (simp [maxLen]; omega)) (fun Aa3 ca3 sp3 w13 how6 (hp : Hp w13 [(_, Cl [_, _, _] _), _, (_, Cl [_, _, _] _), _, _]) hf hnw3 => ?_)
                  have st : St X w13 [(_, Cl [_, _, _] _), _, (_, Cl [_, _, _] _), _, _] [kS A_t_l t.l.length c_t_l 3 (t.l.flatMap msgC)] := st.setAny (i := 3) rfl hp hf hnw3
                  have st : St X w13 [(some g_t, Cl [.slice A_t_c t.c.length c_t_c, .slice A_t_l t.l.length c_t_l, .int .i64 t.count] 118), (blkOf A_t_c, Cl (t.c.flatMap (fun x => [Value.int .i64 x]) ++ sp_t_c) 3), (some g1, Cl [.int .i64 m.f, .int .i64 m.t, sv m.s] 46), (blkOf Aa3, Cl ((([] : List MsgV) ++ t.l).flatMap msgC ++ sp3) 46), (blkOf (some ⟨g4, 0, none⟩), Cl ([m].flatMap msgC ++ []) 46)] [kS A_t_l t.l.length c_t_l 3 (t.l.flatMap msgC)] := st
                  have hnew6 : ∀ g, blkOf Aa3 = some g → g ∈ (keys [(some g_t, Cl [.slice A_t_c t.c.length c_t_c, .slice A_t_l t.l.length c_t_l, .int .i64 t.count] 118), (blkOf A_t_c, Cl (t.c.flatMap (fun x => [Value.int .i64 x]) ++ sp_t_c) 3)]) ∨ w.heap.size ≤ g := fun g hg => (hnw3 g hg).elim (hnew1 g) (fun h => .inr (Nat.le_trans hF.size h))
                  have hF := hF.step hf (fun y hy => hnew1 y (by simpa using hy))
                  refine ⟨(st.picks [0, 1, 2] (by decide)).takeK 1, ?_⟩
                  refine Pf_a (i := 9) (by kernel_rfl) rfl (wtd0 rfl) ?_
                  refine a_appM (i := 3) (xs := ([] : List MsgV) ++ t.l) (ys := [m]) (enc := msgC) rfl rfl rfl rfl rfl rfl Ty.es_116 Ty.zc_46 rfl Ty.by_46 (by decide) (fun _ => rfl) how6 st.hp rfl (own_src (i := 4) st.hp rfl how5) (own_none how5) (by intro x v hv; simp only [msgC, List.mem_cons, List.not_mem_nil, or_false] at hv; rcases hv with rfl | rfl | rfl <;> rfl) (by first | (unfold maxLen; omega) | (simp [maxLen]; omega)) (by first | (unfold maxLen; omega) | (simp [maxLen]; omega)) (fun Aa4 ca4 sp4 w14 how7 (hp : Hp w14 [(_, Cl [_, _, _] _), _, (_, Cl [_, _, _] _), _, _]) hf hnw4 => ?_)
                  have st : St X w14 [(_, Cl [_, _, _] _), _, (_, Cl [_, _, _] _), _, _] [kS A_t_l t.l.length c_t_l 3 (t.l.flatMap msgC)] := st.setAny (i := 3) rfl hp hf hnw4
                  have st : St X w14 [(some g_t, Cl [.slice A_t_c t.c.length c_t_c, .slice A_t_l t.l.length c_t_l, .int .i64 t.count] 118), (blkOf A_t_c, Cl (t.c.flatMap (fun x => [Value.int .i64 x]) ++ sp_t_c) 3), (some g1, Cl [.int .i64 m.f, .int .i64 m.t, sv m.s] 46), (blkOf Aa4, Cl (((([] : List MsgV) ++ t.l) ++ [m]).flatMap msgC ++ sp4) 46), (blkOf (some ⟨g4, 0, none⟩), Cl ([m].flatMap msgC ++ []) 46)] [kS A_t_l t.l.length c_t_l 3 (t.l.flatMap msgC)] := st
                  have hnew7 : ∀ g, blkOf Aa4 = some g → g ∈ (keys [(some g_t, Cl [.slice A_t_c t.c.length c_t_c, .slice A_t_l t.l.length c_t_l, .int .i64 t.count] 118), (blkOf A_t_c, Cl (t.c.flatMap (fun x => [Value.int .i64 x]) ++ sp_t_c) 3)]) ∨ w.heap.size ≤ g := fun g hg => (hnw4 g hg).elim (hnew6 g) (fun h => .inr (Nat.le_trans hF.size h))
                  have hF := hF.step hf (fun y hy => hnew6 y (by simpa using hy))
                  refine ⟨(st.picks [0, 1, 2] (by decide)).takeK 1, ?_⟩
                  refine Pf_y (i := 10) rfl (by kernel_rfl) (wtd0 rfl) rfl rfl (y_nil rfl rfl) ?_
                  refine Pf_y (i := 11) rfl (by kernel_rfl) (wtd0 rfl) rfl rfl (y_fld rfl rfl Ty.fo_118_1) ?_
                  refine Pf_fin (by kernel_rfl) (by kernel_rfl) rfl (wtd0 rfl) ?_
                  refine a_store (i := 0) rfl rfl rfl rfl rfl Ty.sz_116 rfl st.hp rfl (by simp) (fun w15 (hp : Hp w15 [(_, Cl [_, _, _] _), _, (_, Cl [_, _, _] _), _, _]) hf _ => ?_)
                  have st : St X w15 [(_, Cl [_, _, _] _), _, (_, Cl [_, _, _] _), _, _] [kS A_t_l t.l.length c_t_l 3 (t.l.flatMap msgC)] := st.set (i := 0) rfl hp hf
                  have hF := hF.step hf (by intro y hy; simp only [List.mem_cons, List.not_mem_nil, or_false] at hy; subst hy; first | (exact Or.inr (by omega)) | (exact Or.inl (kin0 _ _)) | (exact Or.inl (by simp)))
                  refine id (Th_n (hK15 _ _ ?_))
                  refine Wp_seq fun K17 hK17 => ?_
                  refine Wp_region ?_
                  refine Ls_y (wtd0 rfl) rfl rfl (y_assign rfl rfl) ?_
                  refine Ls_nil (Th_n (hK17 _ _ ?_))
                  refine Wp_ret (Fq_ret (Res1 rfl rfl) ?_)
                  have st : St X w15 [(_, Cl [_, _, _] _), _, (_, Cl [_, _, _] _), _] [kS A_t_l t.l.length c_t_l 3 (t.l.flatMap msgC), kS Aa4 (((([] : List MsgV) ++ t.l) ++ [m]).length) ca4 3 (((([] : List MsgV) ++ t.l) ++ [m]).flatMap msgC)] := st.freeze (i := 3) [0, 1, 2, 4] (by decide) rfl how7 (by decide)
                  have he8 : rsend_m t m = (0, (⟨t.c, (([] : List MsgV) ++ t.l) ++ [m], t.count⟩ : NetM)) := by
                    unfold rsend_m
                    all_goals rewrite [if_pos hc1]
                    all_goals rewrite [if_pos hc2]
                    all_goals rewrite [if_neg hc3]
                    all_goals rewrite [if_neg hc4]
                    all_goals rewrite [if_neg hc5]
                    all_goals rewrite [if_neg hc6]
                    all_goals rfl
                  rewrite [he8]
                  exact ⟨_, _, _, _, _, rfl, how_t_c, (st.picks [0, 1] (by decide)).pickK [1], hF, kc_s (.inl (by simp [keys])) (kc_b hnewA_t_c (kc_n))⟩
              · refine a_bsls (us := [.int .i64 m.f, .int .i64 m.t, sv m.s]) rfl rfl rfl rfl Ty.es_116 Ty.zc_46 rfl (by decide) st.hp (fun g5 w16 (hp : Hp w16 [(_, Cl [_, _, _] _), _, (_, Cl [_, _, _] _), _]) hf hg5 => ?_)
                have how8 : Ow (some ⟨g5, 0, none⟩) [m].length 1 3 ([m].flatMap msgC) [] := ⟨rfl, .inr ⟨g5, rfl, rfl, Nat.le_refl _, by unfold maxLen; decide⟩⟩
                have st : St X w16 [(_, Cl [_, _, _] _), _, (_, Cl [_, _, _] _), _] [kS A_t_l t.l.length c_t_l 3 (t.l.flatMap msgC)] := st.push hp hf hg5
                have st : St X w16 [(some g_t, Cl [.slice A_t_c t.c.length c_t_c, .slice A_t_l t.l.length c_t_l, .int .i64 t.count] 118), (blkOf A_t_c, Cl (t.c.flatMap (fun x => [Value.int .i64 x]) ++ sp_t_c) 3), (some g1, Cl [.int .i64 m.f, .int .i64 m.t, sv m.s] 46), (blkOf (some ⟨g5, 0, none⟩), Cl ([m].flatMap msgC ++ []) 46)] [kS A_t_l t.l.length c_t_l 3 (t.l.flatMap msgC)] := st
                have hg5 := Nat.le_trans hF.size hg5
                have hF := hF.step0 hf
                have hnew8 : ∀ g, blkOf (some ⟨g5, 0, none⟩) = some g → g ∈ (keys [(some g_t, Cl [.slice A_t_c t.c.length c_t_c, .slice A_t_l t.l.length c_t_l, .int .i64 t.count] 118), (blkOf A_t_c, Cl (t.c.flatMap (fun x => [Value.int .i64 x]) ++ sp_t_c) 3)]) ∨ w.heap.size ≤ g := fun g hg => by simp [blkOf] at hg; subst hg; exact .inr hg5
                refine ⟨(st.picks [0, 1, 2] (by decide)).takeK 1, ?_⟩
                refine Pf_a (i := 1) (by kernel_rfl) rfl (wtd0 rfl) ?_
                refine a_bsl0 rfl rfl rfl Ty.es_116 Ty.zc_46 st.hp (fun g6 w17 (hp : Hp w17 [(_, Cl [_, _, _] _), _, (_, Cl [_, _, _] _), _, _]) hf hg6 => ?_)
                have how9 : Ow (some ⟨g6, 0, none⟩) ([] : List MsgV).length 0 3 (([] : List MsgV).flatMap msgC) [] := ⟨rfl, .inr ⟨g6, rfl, rfl, Nat.le_refl _, by unfold maxLen; decide⟩⟩
                have st : St X w17 [(_, Cl [_, _, _] _), _, (_, Cl [_, _, _] _), _, _] [kS A_t_l t.l.length c_t_l 3 (t.l.flatMap msgC)] := st.push hp hf hg6
                have st : St X w17 [(some g_t, Cl [.slice A_t_c t.c.length c_t_c, .slice A_t_l t.l.length c_t_l, .int .i64 t.count] 118), (blkOf A_t_c, Cl (t.c.flatMap (fun x => [Value.int .i64 x]) ++ sp_t_c) 3), (some g1, Cl [.int .i64 m.f, .int .i64 m.t, sv m.s] 46), (blkOf (some ⟨g5, 0, none⟩), Cl ([m].flatMap msgC ++ []) 46), (blkOf (some ⟨g6, 0, none⟩), Cl (([] : List MsgV).flatMap msgC ++ []) 46)] [kS A_t_l t.l.length c_t_l 3 (t.l.flatMap msgC)] := st
                have hg6 := Nat.le_trans hF.size hg6
                have hF := hF.step0 hf
                have hnew9 : ∀ g, blkOf (some ⟨g6, 0, none⟩) = some g → g ∈ (keys [(some g_t, Cl [.slice A_t_c t.c.length c_t_c, .slice A_t_l t.l.length c_t_l, .int .i64 t.count] 118), (blkOf A_t_c, Cl (t.c.flatMap (fun x => [Value.int .i64 x]) ++ sp_t_c) 3)]) ∨ w.heap.size ≤ g := fun g hg => by simp [blkOf] at hg; subst hg; exact .inr hg6
                refine ⟨(st.picks [0, 1, 2] (by decide)).takeK 1, ?_⟩
                refine Pf_a (i := 6) (by kernel_rfl) rfl (wtd0 rfl) ?_
                refine a_appM (i := 4) (xs := ([] : List MsgV)) (ys := t.l) (enc := msgC) rfl rfl rfl rfl rfl rfl Ty.es_116 Ty.zc_46 rfl Ty.by_46 (by decide) (fun _ => rfl) how9 st.hp rfl (st.k (i := 0) rfl).rd.src (fun h => by have := (st.k (i := 0) rfl).rd; exact rd_none this h (st.k (i := 0) rfl).len (by decide)) (by intro x v hv; simp only [msgC, List.mem_cons, List.not_mem_nil, or_false] at hv; rcases hv with rfl | rfl | rfl <;> rfl) (by first | (unfold maxLen; omega) | (simp [maxLen]; omega)) (by first | (unfold maxLen; omega) | (simp [maxLen]; omega)) (fun Aa5 ca5 sp5 w18 how10 (hp : Hp w18 [(_, Cl [_, _, _] _), _, (_, Cl [_, _, _] _), _, _]) hf hnw5 => ?_)
                have st : St X w18 [(_, Cl [_, _, _] _), _, (_, Cl [_, _, _] _), _, _] [kS A_t_l t.l.length c_t_l 3 (t.l.flatMap msgC)] := st.setAny (i := 4) rfl hp hf hnw5
                have st : St X w18 [(some g_t, Cl [.slice A_t_c t.c.length c_t_c, .slice A_t_l t.l.length c_t_l, .int .i64 t.count] 118), (blkOf A_t_c, Cl (t.c.flatMap (fun x => [Value.int .i64 x]) ++ sp_t_c) 3), (some g1, Cl [.int .i64 m.f, .int .i64 m.t, sv m.s] 46), (blkOf (some ⟨g5, 0, none⟩), Cl ([m].flatMap msgC ++ []) 46), (blkOf Aa5, Cl ((([] : List MsgV) ++ t.l).flatMap msgC ++ sp5) 46)] [kS A_t_l t.l.length c_t_l 3 (t.l.flatMap msgC)] := st
                have hnew10 : ∀ g, blkOf Aa5 = some g → g ∈ (keys [(some g_t, Cl [.slice A_t_c t.c.length c_t_c, .slice A_t_l t.l.length c_t_l, .int .i64 t.count] 118), (blkOf A_t_c, Cl (t.c.flatMap (fun x => [Value.int .i64 x]) ++ sp_t_c) 3)]) ∨ w.heap.size ≤ g := fun g hg => (hnw5 g hg).elim (hnew9 g) (fun h => .inr (Nat.le_trans hF.size h))
                have hF := hF.step hf (fun y hy => hnew9 y (by simpa using hy))
                refine ⟨(st.picks [0, 1, 2] (by decide)).takeK 1, ?_⟩
                refine Pf_a (i := 9) (by kernel_rfl) rfl (wtd0 rfl) ?_
                refine a_appM (i := 4) (xs := ([] : List MsgV) ++ t.l) (ys := [m]) (enc := msgC) rfl rfl rfl rfl rfl rfl Ty.es_116 Ty.zc_46 rfl Ty.by_46 (by decide) (fun _ => rfl) how10 st.hp rfl (own_src (i := 3) st.hp rfl how8) (own_none how8) (by intro x v hv; simp only [msgC, List.mem_cons, List.not_mem_nil, or_false] at hv; rcases hv with rfl | rfl | rfl <;> rfl) (by first | (unfold maxLen; omega) | (simp [maxLen]; omega)) (by first | (unfold maxLen; omega) | (simp [maxLen]; omega)) (fun Aa6 ca6 sp6 w19 how11 (hp : Hp w19 [(_, Cl [_, _, _] _), _, (_, Cl [_, _, _] _), _, _]) hf hnw6 => ?_)
                have st : St X w19 [(_, Cl [_, _, _] _), _, (_, Cl [_, _, _] _), _, _] [kS A_t_l t.l.length c_t_l 3 (t.l.flatMap msgC)] := st.setAny (i := 4) rfl hp hf hnw6
                have st : St X w19 [(some g_t, Cl [.slice A_t_c t.c.length c_t_c, .slice A_t_l t.l.length c_t_l, .int .i64 t.count] 118), (blkOf A_t_c, Cl (t.c.flatMap (fun x => [Value.int .i64 x]) ++ sp_t_c) 3), (some g1, Cl [.int .i64 m.f, .int .i64 m.t, sv m.s] 46), (blkOf (some ⟨g5, 0, none⟩), Cl ([m].flatMap msgC ++ []) 46), (blkOf Aa6, Cl (((([] : List MsgV) ++ t.l) ++ [m]).flatMap msgC ++ sp6) 46)] [kS A_t_l t.l.length c_t_l 3 (t.l.flatMap msgC)] := st
                have hnew11 : ∀ g, blkOf Aa6 = some g → g ∈ (keys [(some g_t, Cl [.slice A_t_c t.c.length c_t_c, .slice A_t_l t.l.length c_t_l, .int .i64 t.count] 118), (blkOf A_t_c, Cl (t.c.flatMap (fun x => [Value.int .i64 x]) ++ sp_t_c) 3)]) ∨ w.heap.size ≤ g := fun g hg => (hnw6 g hg).elim (hnew10 g) (fun h => .inr (Nat.le_trans hF.size h))
                have hF := hF.step hf (fun y hy => hnew10 y (by simpa using hy))
                refine ⟨(st.picks [0, 1, 2] (by decide)).takeK 1, ?_⟩
                refine Pf_y (i := 10) rfl (by kernel_rfl) (wtd0 rfl) rfl rfl (y_nil rfl rfl) ?_
                refine Pf_y (i := 11) rfl (by kernel_rfl) (wtd0 rfl) rfl rfl (y_fld rfl rfl Ty.fo_118_1) ?_
                refine Pf_fin (by kernel_rfl) (by kernel_rfl) rfl (wtd0 rfl) ?_
                refine a_store (i := 0) rfl rfl rfl rfl rfl Ty.sz_116 rfl st.hp rfl (by simp) (fun w20 (hp : Hp w20 [(_, Cl [_, _, _] _), _, (_, Cl [_, _, _] _), _, _]) hf _ => ?_)
                have st : St X w20 [(_, Cl [_, _, _] _), _, (_, Cl [_, _, _] _), _, _] [kS A_t_l t.l.length c_t_l 3 (t.l.flatMap msgC)] := st.set (i := 0) rfl hp hf
                have hF := hF.step hf (by intro y hy; simp only [List.mem_cons, List.not_mem_nil, or_false] at hy; subst hy; first | (exact Or.inr (by omega)) | (exact Or.inl (kin0 _ _)) | (exact Or.inl (by simp)))
                refine id (Th_n (hK15 _ _ ?_))
                refine Wp_seq fun K18 hK18 => ?_
                refine Wp_region ?_
                refine Ls_y (wtd0 rfl) rfl rfl (y_assign rfl rfl) ?_
                refine Ls_nil (Th_n (hK18 _ _ ?_))
                refine Wp_ret (Fq_ret (Res1 rfl rfl) ?_)
                have st : St X w20 [(_, Cl [_, _, _] _), _, (_, Cl [_, _, _] _), _] [kS A_t_l t.l.length c_t_l 3 (t.l.flatMap msgC), kS Aa6 (((([] : List MsgV) ++ t.l) ++ [m]).length) ca6 3 (((([] : List MsgV) ++ t.l) ++ [m]).flatMap msgC)] := st.freeze (i := 4) [0, 1, 2, 3] (by decide) rfl how11 (by decide)
                have he9 : rsend_m t m = (0, (⟨t.c, (([] : List MsgV) ++ t.l) ++ [m], t.count⟩ : NetM)) := by
                  unfold rsend_m
                  all_goals rewrite [if_pos hc1]
                  all_goals rewrite [if_pos hc2]
                  all_goals rewrite [if_neg hc3]
                  all_goals rewrite [if_neg hc4]
                  all_goals rewrite [if_neg hc5]
                  all_goals rewrite [if_neg hc6]
                  all_goals rfl
                rewrite [he9]
                exact ⟨_, _, _, _, _, rfl, how_t_c, (st.picks [0, 1] (by decide)).pickK [1], hF, kc_s (.inl (by simp [keys])) (kc_b hnewA_t_c (kc_n))⟩

def rat_m (t : NetM) (i : Int) : MsgV × Int :=
  if i < 0 then
    ((⟨0, 0, []⟩ : MsgV), 2)
  else
    if (t.l.length : Int) ≤ i then
      ((⟨0, 0, []⟩ : MsgV), 2)
    else
      ((ix t.l i), 0)

set_option maxRecDepth 20000 in
theorem rat_ok (X : List Nat) (w : World) (g_t : Nat) (t : NetM) (A_t_c : Option Addr) (c_t_c : Nat) (sp_t_c : List Value) (A_t_l : Option Addr) (c_t_l : Nat) (i : Int) (hs : St X w [(some g_t, Cl [.slice A_t_c t.c.length c_t_c, .slice A_t_l t.l.length c_t_l, .int .i64 t.count] 118), (blkOf A_t_c, Cl (t.c.flatMap (fun x => [Value.int .i64 x]) ++ sp_t_c) 3)] [kS A_t_l t.l.length c_t_l 3 (t.l.flatMap msgC)]) (how_t_c : Ow A_t_c t.c.length c_t_c 1 (t.c.flatMap (fun x => [Value.int .i64 x])) sp_t_c) :
    Fn Try.prog 77 [.pointer (some ⟨g_t, 0, none⟩), .int .i64 i] w fun v w' => v = .tuple #[.agg (msgC ((rat_m t i).1)).toArray, .int .i64 ((rat_m t i).2)] ∧ Fr [] w w' := by
  refine Fn_of 25 Ty.en_77 Try.func77 rfl rfl rfl ?_
  dsimp only [argEnv]
  have hs0 := hs
  have st : St X w [(some g_t, Cl [.slice A_t_c t.c.length c_t_c, .slice A_t_l t.l.length c_t_l, .int .i64 t.count] 118), (blkOf A_t_c, Cl (t.c.flatMap (fun x => [Value.int .i64 x]) ++ sp_t_c) 3)] [kS A_t_l t.l.length c_t_l 3 (t.l.flatMap msgC)] := hs
  have hnewA_t_c := True
  have hleA_t_c := Ow.le how_t_c
  have hF := Fr.refl ([]) w
  have hleA_t_l := (st.k (i := 0) rfl).le
  refine Wp_seq fun K1 hK1 => ?_
  refine Wp_region ?_
  refine Ls_a (wtd0 rfl) ?_
  refine a_alloc rfl rfl rfl Ty.zc_46 st.hp (fun g1 w1 (hp : Hp w1 [(_, Cl [_, _, _] _), _, (_, Cl [_, _, _] _)]) hf hg1 => ?_)
  have st : St X w1 [(_, Cl [_, _, _] _), _, (_, Cl [_, _, _] _)] [kS A_t_l t.l.length c_t_l 3 (t.l.flatMap msgC)] := st.push hp hf hg1
  have hg1 := Nat.le_trans hF.size hg1
  have hF := hF.step0 hf
  refine Ls_y (wtd0 rfl) rfl rfl (y_assign rfl rfl) ?_
  refine Ls_nil (Th_n (hK1 _ _ ?_))
  refine Wp_seq fun K2 hK2 => ?_
  refine Wp_seq fun K3 hK3 => ?_
  refine Wp_region ?_
  refine Ls_y (wtd0 rfl) rfl rfl (y_move rfl rfl) ?_
  refine Ls_y (wtd0 rfl) rfl rfl (y_lt rfl rfl rfl) ?_
  refine Ls_y (wtd0 rfl) rfl rfl (y_move rfl rfl) ?_
  refine Ls_bool 8 rfl (fun hc1 => ?_) (fun hc1 => ?_)
  · have hc1 : i < 0 := by first | simpa using hc1 | (intro hh; rw [hh] at hc1; cases hc1)
    refine Ls_s (wtdF rfl rfl rfl) rfl rfl ?_
    refine Ls_s (wtdF rfl rfl rfl) rfl rfl ?_
    refine Ls_s (wtdF rfl rfl rfl) rfl rfl ?_
    refine Ls_s (wtdF rfl rfl rfl) rfl rfl ?_
    refine Ls_s (wtdF rfl rfl rfl) rfl rfl ?_
    refine Ls_s (wtdF rfl rfl rfl) rfl rfl ?_
    refine Ls_s (wtdF rfl rfl rfl) rfl rfl ?_
    refine Ls_y (wtd0 rfl) rfl rfl (y_pick_t rfl rfl rfl) ?_
    refine Ls_nil (Th_n (hK3 _ _ ?_))
    refine Wp_cond_t rfl ?_
    refine Wp_seq fun K4 hK4 => ?_
    refine Wp_region ?_
    refine Ls_y (wtd0 rfl) rfl rfl (y_build (cells := [_, _, _]) rfl rfl Ty.zc_46 Ty.ps_46 rfl) ?_
    refine Ls_a (wtd0 rfl) ?_
    refine a_storew (i := 2) rfl rfl rfl rfl Ty.sz_46 rfl (by first | assumption | (simp [Value.oneCell']; done)) st.hp rfl rfl (fun w2 (hp : Hp w2 [(_, Cl [_, _, _] _), _, (_, Cl [_, _, _] _)]) hf _ => ?_)
    have st : St X w2 [(_, Cl [_, _, _] _), _, (_, Cl [_, _, _] _)] [kS A_t_l t.l.length c_t_l 3 (t.l.flatMap msgC)] := st.set (i := 2) rfl hp hf
    have hF := hF.step hf (by intro y hy; simp only [List.mem_cons, List.not_mem_nil, or_false] at hy; subst hy; first | (exact Or.inr (by omega)) | (exact Or.inl (kin0 _ _)) | (exact Or.inl (by simp)))
    refine Ls_y (wtd0 rfl) rfl rfl (y_assign rfl rfl) ?_
    refine Ls_nil (Th_n (hK4 _ _ ?_))
    refine Wp_ret (Th_r (Fq_ret (ResN2 rfl (rvc (i := 2) rfl Ty.ag_46 st.hp rfl rfl) rfl) ?_))
    have he1 : rat_m t i = ((⟨0, 0, []⟩ : MsgV), 2) := by
      unfold rat_m
      all_goals rewrite [if_pos hc1]
      all_goals rfl
    rewrite [he1]
    exact ⟨rfl, hF⟩
  · have hc1 : ¬ (i < 0) := by first | simpa using hc1 | (intro hh; rw [hh] at hc1; cases hc1)
    refine Ls_y (wtdT rfl rfl rfl) rfl rfl (y_move rfl rfl) ?_
    refine Ls_y (wtdT rfl rfl rfl) rfl rfl (y_move rfl rfl) ?_
    refine Ls_y (wtdT rfl rfl rfl) rfl rfl (y_nil rfl rfl) ?_
    refine Ls_y (wtdT rfl rfl rfl) rfl rfl (y_fld rfl rfl Ty.fo_118_1) ?_
    refine Ls_y (wtdT rfl rfl rfl) rfl rfl (y_load (i := 0) rfl rfl Ty.pl_116 (fun _ e => e ▸ st.hp) rfl rfl) ?_
    refine Ls_y (wtdT rfl rfl rfl) rfl rfl (y_lenl rfl rfl Try.underlying116) ?_
    refine Ls_y (wtdT rfl rfl rfl) rfl rfl (y_ge rfl rfl rfl) ?_
    refine Ls_y (wtd0 rfl) rfl rfl (y_pick_f rfl rfl rfl) ?_
    refine Ls_nil (Th_n (hK3 _ _ ?_))
    refine Wp_cond rfl (fun hc2 => ?_) (fun hc2 => ?_)
    · have hc2 : (t.l.length : Int) ≤ i := by first | simpa using hc2 | (intro hh; rw [hh] at hc2; cases hc2)
      refine Wp_seq fun K5 hK5 => ?_
      refine Wp_region ?_
      refine Ls_y (wtd0 rfl) rfl rfl (y_build (cells := [_, _, _]) rfl rfl Ty.zc_46 Ty.ps_46 rfl) ?_
      refine Ls_a (wtd0 rfl) ?_
      refine a_storew (i := 2) rfl rfl rfl rfl Ty.sz_46 rfl (by first | assumption | (simp [Value.oneCell']; done)) st.hp rfl rfl (fun w3 (hp : Hp w3 [(_, Cl [_, _, _] _), _, (_, Cl [_, _, _] _)]) hf _ => ?_)
      have st : St X w3 [(_, Cl [_, _, _] _), _, (_, Cl [_, _, _] _)] [kS A_t_l t.l.length c_t_l 3 (t.l.flatMap msgC)] := st.set (i := 2) rfl hp hf
      have hF := hF.step hf (by intro y hy; simp only [List.mem_cons, List.not_mem_nil, or_false] at hy; subst hy; first | (exact Or.inr (by omega)) | (exact Or.inl (kin0 _ _)) | (exact Or.inl (by simp)))
      refine Ls_y (wtd0 rfl) rfl rfl (y_assign rfl rfl) ?_
      refine Ls_nil (Th_n (hK5 _ _ ?_))
      refine Wp_ret (Th_r (Fq_ret (ResN2 rfl (rvc (i := 2) rfl Ty.ag_46 st.hp rfl rfl) rfl) ?_))
      have he2 : rat_m t i = ((⟨0, 0, []⟩ : MsgV), 2) := by
        unfold rat_m
        all_goals rewrite [if_neg hc1]
        all_goals rewrite [if_pos hc2]
        all_goals rfl
      rewrite [he2]
      exact ⟨rfl, hF⟩
    · have hc2 : ¬ ((t.l.length : Int) ≤ i) := by first | simpa using hc2 | (intro hh; rw [hh] at hc2; cases hc2)
      refine Wp_skip (Th_n (hK2 _ _ ?_))
      refine Wp_seq fun K6 hK6 => ?_
      refine Wp_region ?_
      refine Ls_y (wtd0 rfl) rfl rfl (y_move rfl rfl) ?_
      refine Ls_y (wtd0 rfl) rfl rfl (y_nil rfl rfl) ?_
      refine Ls_y (wtd0 rfl) rfl rfl (y_fld rfl rfl Ty.fo_118_1) ?_
      refine Ls_y (wtd0 rfl) rfl rfl (y_load (i := 0) rfl rfl Ty.pl_116 (fun _ e => e ▸ st.hp) rfl rfl) ?_
      refine Ls_y (wtd0 rfl) rfl rfl (y_move rfl rfl) ?_
      obtain ⟨gi1, bi1, egi1⟩ := (st.k (i := 0) rfl).addr (fun _ => rfl) (by decide) (q := i) (by first | omega | (simp; done) | (simp; omega)) (by first | omega | (simp; done) | (simp; omega))
      subst egi1
      refine Ls_y (wtd0 rfl) rfl rfl (y_ixa (q := i) rfl rfl rfl Ty.es_116 (by first | omega | (simp; done) | (simp; omega)) (by first | omega | (simp; done) | (simp; omega))) ?_
      refine Ls_y (wtd0 rfl) rfl rfl (y_ldk (q := i) rfl rfl Ty.ag_46 (fun _ e => e ▸ st.k (i := 0) rfl) (fun _ => rfl) (by first | omega | (simp; done) | (simp; omega)) (by first | omega | (simp; done) | (simp; omega))) ?_
      refine Ls_a (wtd0 rfl) ?_
      refine a_storew (i := 2) rfl rfl rfl rfl Ty.sz_46 rfl (by first | assumption | (simp [Value.oneCell', msgC]; done)) st.hp rfl rfl (fun w4 (hp : Hp w4 [(_, Cl [_, _, _] _), _, (_, Cl [_, _, _] _)]) hf _ => ?_)
      have st : St X w4 [(_, Cl [_, _, _] _), _, (_, Cl [_, _, _] _)] [kS (some ⟨gi1, bi1, none⟩) t.l.length c_t_l 3 (t.l.flatMap msgC)] := st.set (i := 2) rfl hp hf
      have hF := hF.step hf (by intro y hy; simp only [List.mem_cons, List.not_mem_nil, or_false] at hy; subst hy; first | (exact Or.inr (by omega)) | (exact Or.inl (kin0 _ _)) | (exact Or.inl (by simp)))
      refine Ls_y (wtd0 rfl) rfl rfl (y_assign rfl rfl) ?_
      refine Ls_nil (Th_n (hK6 _ _ ?_))
      refine Wp_ret (Fq_ret (ResN2 rfl (rvc (i := 2) rfl Ty.ag_46 st.hp rfl rfl) rfl) ?_)
      have he3 : rat_m t i = ((ix t.l i), 0) := by
        unfold rat_m
        all_goals rewrite [if_neg hc1]
        all_goals rewrite [if_neg hc2]
        all_goals rfl
      rewrite [he3]
      exact ⟨rfl, hF⟩

theorem rat_fine {t : NetM} {i : Int} (h : (rat_m t i).2 = 0) : 0 ≤ i ∧ i < (t.l.length : Int) := by
  unfold rat_m at h
  split at h
  · cases h
  · split at h
    · cases h
    · omega

def rout_m (t : NetM) (i : Int) : NetM :=
  (⟨t.c, (([] : List MsgV) ++ (t.l.take i.toNat)) ++ (t.l.drop (i + 1).toNat), t.count⟩ : NetM)

set_option maxRecDepth 20000 in
theorem rout_ok (X : List Nat) (w : World) (g_t : Nat) (t : NetM) (A_t_c : Option Addr) (c_t_c : Nat) (sp_t_c : List Value) (A_t_l : Option Addr) (c_t_l : Nat) (i : Int) (hs : St X w [(some g_t, Cl [.slice A_t_c t.c.length c_t_c, .slice A_t_l t.l.length c_t_l, .int .i64 t.count] 118), (blkOf A_t_c, Cl (t.c.flatMap (fun x => [Value.int .i64 x]) ++ sp_t_c) 3)] [kS A_t_l t.l.length c_t_l 3 (t.l.flatMap msgC)]) (how_t_c : Ow A_t_c t.c.length c_t_c 1 (t.c.flatMap (fun x => [Value.int .i64 x])) sp_t_c) (hr : t.l.length ≤ 128) (hi : 0 ≤ i ∧ i < t.l.length) :
    Fn Try.prog 78 [.pointer (some ⟨g_t, 0, none⟩), .int .i64 i] w fun v w' => ∃ (Ac' : Option Addr) (cc' : Nat) (spc' : List Value) (Al' : Option Addr) (cl' : Nat), v = .tuple #[] ∧ Ow Ac' (rout_m t i).c.length cc' 1 ((rout_m t i).c.flatMap (fun x => [Value.int .i64 x])) spc' ∧ St X w' [(some g_t, Cl [.slice Ac' (rout_m t i).c.length cc', .slice Al' (rout_m t i).l.length cl', .int .i64 ((rout_m t i).count)] 118), (blkOf Ac', Cl ((rout_m t i).c.flatMap (fun x => [Value.int .i64 x]) ++ spc') 3)] [kS Al' (rout_m t i).l.length cl' 3 ((rout_m t i).l.flatMap msgC)] ∧ Fr (keys [(some g_t, Cl [.slice A_t_c t.c.length c_t_c, .slice A_t_l t.l.length c_t_l, .int .i64 t.count] 118), (blkOf A_t_c, Cl (t.c.flatMap (fun x => [Value.int .i64 x]) ++ sp_t_c) 3)]) w w' ∧ (∀ k ∈ keys [(some g_t, Cl [.slice Ac' (rout_m t i).c.length cc', .slice Al' (rout_m t i).l.length cl', .int .i64 ((rout_m t i).count)] 118), (blkOf Ac', Cl ((rout_m t i).c.flatMap (fun x => [Value.int .i64 x]) ++ spc') 3)], k ∈ (keys [(some g_t, Cl [.slice A_t_c t.c.length c_t_c, .slice A_t_l t.l.length c_t_l, .int .i64 t.count] 118), (blkOf A_t_c, Cl (t.c.flatMap (fun x => [Value.int .i64 x]) ++ sp_t_c) 3)]) ∨ w.heap.size ≤ k) := by
  refine Fn_of 23 Ty.en_78 Try.func78 rfl rfl rfl ?_
  dsimp only [argEnv]
  have hs0 := hs
  have st : St X w [(some g_t, Cl [.slice A_t_c t.c.length c_t_c, .slice A_t_l t.l.length c_t_l, .int .i64 t.count] 118), (blkOf A_t_c, Cl (t.c.flatMap (fun x => [Value.int .i64 x]) ++ sp_t_c) 3)] [kS A_t_l t.l.length c_t_l 3 (t.l.flatMap msgC)] := hs
  have hnewA_t_c : ∀ g, blkOf A_t_c = some g → g ∈ (keys [(some g_t, Cl [.slice A_t_c t.c.length c_t_c, .slice A_t_l t.l.length c_t_l, .int .i64 t.count] 118), (blkOf A_t_c, Cl (t.c.flatMap (fun x => [Value.int .i64 x]) ++ sp_t_c) 3)]) ∨ w.heap.size ≤ g := fun g hg => .inl (by simp [keys, hg])
  have hleA_t_c := Ow.le how_t_c
  have hF := Fr.refl (keys [(some g_t, Cl [.slice A_t_c t.c.length c_t_c, .slice A_t_l t.l.length c_t_l, .int .i64 t.count] 118), (blkOf A_t_c, Cl (t.c.flatMap (fun x => [Value.int .i64 x]) ++ sp_t_c) 3)]) w
  have hleA_t_l := (st.k (i := 0) rfl).le
  refine Wp_planF (fun W => St X W (pickL (hOf st) [0, 1]) (kOf st)) [(true, 0), (true, 2), (true, 3), (true, 4), (true, 5), (true, 6), (true, 7), (true, 9), (true, 10), (true, 11), (true, 12), (true, 13), (true, 14), (true, 15), (false, 1), (false, 8), (false, 16), (true, 17), (true, 18)] 19 Ty.mx_0 (by kernel_rfl) (by kernel_rfl) (by kernel_rfl) rfl ((st.picks [0, 1] (by decide)).drew) ?_
  have st := st.drew
  have hF := hF.step0 (Fr.drew _)
  refine Pl_y rfl (wtd0 rfl) rfl rfl (y_move rfl rfl) ?_
  refine Pl_y rfl (wtd0 rfl) rfl rfl (y_move rfl rfl) ?_
  refine Pl_y rfl (wtd0 rfl) rfl rfl (y_nil rfl rfl) ?_
  refine Pl_y rfl (wtd0 rfl) rfl rfl (y_fld rfl rfl Ty.fo_118_1) ?_
  refine Pl_y rfl (wtd0 rfl) rfl rfl (y_load (i := 0) rfl rfl Ty.pl_116 (fun _ h => h.hp) rfl rfl) ?_
  refine Pl_y rfl (wtd0 rfl) rfl rfl (y_move rfl rfl) ?_
  obtain ⟨Ak1, ck1, hk1, hk1y⟩ := cutK0 (enc := msgC) (m := 3) (l := t.l) (q := i) (fun _ => rfl) (by decide) (st.k (i := 0) rfl) (by first | omega | (simp; done) | (simp; omega)) (by first | omega | (simp; done) | (simp; omega))
  refine Pl_y rfl (wtd0 rfl) rfl rfl (hk1y rfl rfl Ty.es_116 rfl rfl) ?_
  have st := st.addK (kS Ak1 (t.l.take i.toNat).length ck1 3 ((t.l.take i.toNat).flatMap msgC)) hk1
  have st : St X _ [(_, Cl [_, _, _] _), _] [kS A_t_l t.l.length c_t_l 3 (t.l.flatMap msgC), kS Ak1 (t.l.take i.toNat).length ck1 3 ((t.l.take i.toNat).flatMap msgC)] := st
  refine Pl_y rfl (wtd0 rfl) rfl rfl (y_move rfl rfl) ?_
  refine Pl_y rfl (wtd0 rfl) rfl rfl (y_nil rfl rfl) ?_
  refine Pl_y rfl (wtd0 rfl) rfl rfl (y_fld rfl rfl Ty.fo_118_1) ?_
  refine Pl_y rfl (wtd0 rfl) rfl rfl (y_load (i := 0) rfl rfl Ty.pl_116 (fun _ h => h.hp) rfl rfl) ?_
  refine Pl_y rfl (wtd0 rfl) rfl rfl (y_move rfl rfl) ?_
  refine Pl_y rfl (wtd0 rfl) rfl rfl (y_add (c := i + 1) rfl rfl rfl (wf_i64 (by first | omega | (simp; done) | (simp; omega)))) ?_
  obtain ⟨Ak2, ck2, hk2, hk2y⟩ := cutKe (enc := msgC) (m := 3) (l := t.l) (p := i + 1) (fun _ => rfl) (by decide) (st.k (i := 0) rfl) (by first | omega | (simp; done) | (simp; omega)) (by first | omega | (simp; done) | (simp; omega))
  refine Pl_y rfl (wtd0 rfl) rfl rfl (hk2y rfl rfl Ty.es_116 rfl rfl) ?_
  have st := st.addK (kS Ak2 (t.l.drop (i + 1).toNat).length ck2 3 ((t.l.drop (i + 1).toNat).flatMap msgC)) hk2
  have st : St X _ [(_, Cl [_, _, _] _), _] [kS A_t_l t.l.length c_t_l 3 (t.l.flatMap msgC), kS Ak1 (t.l.take i.toNat).length ck1 3 ((t.l.take i.toNat).flatMap msgC), kS Ak2 (t.l.drop (i + 1).toNat).length ck2 3 ((t.l.drop (i + 1).toNat).flatMap msgC)] := st
  refine Pl_a rfl (wtd0 rfl) (by rfl) ?_
  refine a_bsl0 rfl rfl rfl Ty.es_116 Ty.zc_46 st.hp (fun g1 w1 (hp : Hp w1 [(_, Cl [_, _, _] _), _, _]) hf hg1 => ?_)
  have how1 : Ow (some ⟨g1, 0, none⟩) ([] : List MsgV).length 0 3 (([] : List MsgV).flatMap msgC) [] := ⟨rfl, .inr ⟨g1, rfl, rfl, Nat.le_refl _, by unfold maxLen; decide⟩⟩
  have st : St X w1 [(_, Cl [_, _, _] _), _, _] [kS A_t_l t.l.length c_t_l 3 (t.l.flatMap msgC), kS Ak1 (t.l.take i.toNat).length ck1 3 ((t.l.take i.toNat).flatMap msgC), kS Ak2 (t.l.drop (i + 1).toNat).length ck2 3 ((t.l.drop (i + 1).toNat).flatMap msgC)] := st.push hp hf hg1
  have st : St X w1 [(some g_t, Cl [.slice A_t_c t.c.length c_t_c, .slice A_t_l t.l.length c_t_l, .int .i64 t.count] 118), (blkOf A_t_c, Cl (t.c.flatMap (fun x => [Value.int .i64 x]) ++ sp_t_c) 3), (blkOf (some ⟨g1, 0, none⟩), Cl (([] : List MsgV).flatMap msgC ++ []) 46)] [kS A_t_l t.l.length c_t_l 3 (t.l.flatMap msgC), kS Ak1 (t.l.take i.toNat).length ck1 3 ((t.l.take i.toNat).flatMap msgC), kS Ak2 (t.l.drop (i + 1).toNat).length ck2 3 ((t.l.drop (i + 1).toNat).flatMap msgC)] := st
  have hg1 := Nat.le_trans hF.size hg1
  have hF := hF.step0 hf
  have hnew1 : ∀ g, blkOf (some ⟨g1, 0, none⟩) = some g → g ∈ (keys [(some g_t, Cl [.slice A_t_c t.c.length c_t_c, .slice A_t_l t.l.length c_t_l, .int .i64 t.count] 118), (blkOf A_t_c, Cl (t.c.flatMap (fun x => [Value.int .i64 x]) ++ sp_t_c) 3)]) ∨ w.heap.size ≤ g := fun g hg => by simp [blkOf] at hg; subst hg; exact .inr hg1
  refine ⟨(st.picks [0, 1] (by decide)).takeK 1, ?_⟩
  refine Pl_a rfl (wtd0 rfl) (by rfl) ?_
  refine a_appM (i := 2) (xs := ([] : List MsgV)) (ys := t.l.take i.toNat) (enc := msgC) rfl rfl rfl rfl rfl rfl Ty.es_116 Ty.zc_46 rfl Ty.by_46 (by decide) (fun _ => rfl) how1 st.hp rfl (st.k (i := 1) rfl).rd.src (fun h => by have := (st.k (i := 1) rfl).rd; exact rd_none this h (st.k (i := 1) rfl).len (by decide)) (by intro x v hv; simp only [msgC, List.mem_cons, List.not_mem_nil, or_false] at hv; rcases hv with rfl | rfl | rfl <;> rfl) (by first | (unfold maxLen; omega) | (simp [maxLen]; omega)) (by first | (unfold maxLen; omega) | (simp [maxLen]; omega)) (fun Aa1 ca1 sp1 w2 how2 (hp : Hp w2 [(_, Cl [_, _, _] _), _, _]) hf hnw1 => ?_)
  have st : St X w2 [(_, Cl [_, _, _] _), _, _] [kS A_t_l t.l.length c_t_l 3 (t.l.flatMap msgC), kS Ak1 (t.l.take i.toNat).length ck1 3 ((t.l.take i.toNat).flatMap msgC), kS Ak2 (t.l.drop (i + 1).toNat).length ck2 3 ((t.l.drop (i + 1).toNat).flatMap msgC)] := st.setAny (i := 2) rfl hp hf hnw1
  have st : St X w2 [(some g_t, Cl [.slice A_t_c t.c.length c_t_c, .slice A_t_l t.l.length c_t_l, .int .i64 t.count] 118), (blkOf A_t_c, Cl (t.c.flatMap (fun x => [Value.int .i64 x]) ++ sp_t_c) 3), (blkOf Aa1, Cl ((([] : List MsgV) ++ (t.l.take i.toNat)).flatMap msgC ++ sp1) 46)] [kS A_t_l t.l.length c_t_l 3 (t.l.flatMap msgC), kS Ak1 (t.l.take i.toNat).length ck1 3 ((t.l.take i.toNat).flatMap msgC), kS Ak2 (t.l.drop (i + 1).toNat).length ck2 3 ((t.l.drop (i + 1).toNat).flatMap msgC)] := st
  have hnew2 : ∀ g, blkOf Aa1 = some g → g ∈ (keys [(some g_t, Cl [.slice A_t_c t.c.length c_t_c, .slice A_t_l t.l.length c_t_l, .int .i64 t.count] 118), (blkOf A_t_c, Cl (t.c.flatMap (fun x => [Value.int .i64 x]) ++ sp_t_c) 3)]) ∨ w.heap.size ≤ g := fun g hg => (hnw1 g hg).elim (hnew1 g) (fun h => .inr (Nat.le_trans hF.size h))
  have hF := hF.step hf (fun y hy => hnew1 y (by simpa using hy))
  refine ⟨(st.picks [0, 1] (by decide)).takeK 1, ?_⟩
  refine Pl_a rfl (wtd0 rfl) (by rfl) ?_
  refine a_appM (i := 2) (xs := ([] : List MsgV) ++ (t.l.take i.toNat)) (ys := t.l.drop (i + 1).toNat) (enc := msgC) rfl rfl rfl rfl rfl rfl Ty.es_116 Ty.zc_46 rfl Ty.by_46 (by decide) (fun _ => rfl) how2 st.hp rfl (st.k (i := 2) rfl).rd.src (fun h => by have := (st.k (i := 2) rfl).rd; exact rd_none this h (st.k (i := 2) rfl).len (by decide)) (by intro x v hv; simp only [msgC, List.mem_cons, List.not_mem_nil, or_false] at hv; rcases hv with rfl | rfl | rfl <;> rfl) (by first | (unfold maxLen; omega) | (simp [maxLen]; omega)) (by first | (unfold maxLen; omega) | (simp [maxLen]; omega)) (fun Aa2 ca2 sp2 w3 how3 (hp : Hp w3 [(_, Cl [_, _, _] _), _, _]) hf hnw2 => ?_)
  have st : St X w3 [(_, Cl [_, _, _] _), _, _] [kS A_t_l t.l.length c_t_l 3 (t.l.flatMap msgC), kS Ak1 (t.l.take i.toNat).length ck1 3 ((t.l.take i.toNat).flatMap msgC), kS Ak2 (t.l.drop (i + 1).toNat).length ck2 3 ((t.l.drop (i + 1).toNat).flatMap msgC)] := st.setAny (i := 2) rfl hp hf hnw2
  have st : St X w3 [(some g_t, Cl [.slice A_t_c t.c.length c_t_c, .slice A_t_l t.l.length c_t_l, .int .i64 t.count] 118), (blkOf A_t_c, Cl (t.c.flatMap (fun x => [Value.int .i64 x]) ++ sp_t_c) 3), (blkOf Aa2, Cl (((([] : List MsgV) ++ (t.l.take i.toNat)) ++ (t.l.drop (i + 1).toNat)).flatMap msgC ++ sp2) 46)] [kS A_t_l t.l.length c_t_l 3 (t.l.flatMap msgC), kS Ak1 (t.l.take i.toNat).length ck1 3 ((t.l.take i.toNat).flatMap msgC), kS Ak2 (t.l.drop (i + 1).toNat).length ck2 3 ((t.l.drop (i + 1).toNat).flatMap msgC)] := st
  have hnew3 : ∀ g, blkOf Aa2 = some g → g ∈ (keys [(some g_t, Cl [.slice A_t_c t.c.length c_t_c, .slice A_t_l t.l.length c_t_l, .int .i64 t.count] 118), (blkOf A_t_c, Cl (t.c.flatMap (fun x => [Value.int .i64 x]) ++ sp_t_c) 3)]) ∨ w.heap.size ≤ g := fun g hg => (hnw2 g hg).elim (hnew2 g) (fun h => .inr (Nat.le_trans hF.size h))
  have hF := hF.step hf (fun y hy => hnew2 y (by simpa using hy))
  refine ⟨(st.picks [0, 1] (by decide)).takeK 1, ?_⟩
  refine Pl_y rfl (wtd0 rfl) rfl rfl (y_nil rfl rfl) ?_
  refine Pl_y rfl (wtd0 rfl) rfl rfl (y_fld rfl rfl Ty.fo_118_1) ?_
  refine Pl_nil (Fin_a rfl (wtd0 rfl) ?_)
  refine a_store (i := 0) rfl rfl rfl rfl rfl Ty.sz_116 rfl st.hp rfl (by simp) (fun w4 (hp : Hp w4 [(_, Cl [_, _, _] _), _, _]) hf _ => ?_)
  have st : St X w4 [(_, Cl [_, _, _] _), _, _] [kS A_t_l t.l.length c_t_l 3 (t.l.flatMap msgC), kS Ak1 (t.l.take i.toNat).length ck1 3 ((t.l.take i.toNat).flatMap msgC), kS Ak2 (t.l.drop (i + 1).toNat).length ck2 3 ((t.l.drop (i + 1).toNat).flatMap msgC)] := st.set (i := 0) rfl hp hf
  have hF := hF.step hf (by intro y hy; simp only [List.mem_cons, List.not_mem_nil, or_false] at hy; subst hy; first | (exact Or.inr (by omega)) | (exact Or.inl (kin0 _ _)) | (exact Or.inl (by simp)))
  refine id (Fq_end (Res0 rfl) ?_)
  have st : St X w4 [(_, Cl [_, _, _] _), _] [kS A_t_l t.l.length c_t_l 3 (t.l.flatMap msgC), kS Ak1 (t.l.take i.toNat).length ck1 3 ((t.l.take i.toNat).flatMap msgC), kS Ak2 (t.l.drop (i + 1).toNat).length ck2 3 ((t.l.drop (i + 1).toNat).flatMap msgC), kS Aa2 (((([] : List MsgV) ++ (t.l.take i.toNat)) ++ (t.l.drop (i + 1).toNat)).length) ca2 3 (((([] : List MsgV) ++ (t.l.take i.toNat)) ++ (t.l.drop (i + 1).toNat)).flatMap msgC)] := st.freeze (i := 2) [0, 1] (by decide) rfl how3 (by decide)
  have he1 : rout_m t i = (⟨t.c, (([] : List MsgV) ++ (t.l.take i.toNat)) ++ (t.l.drop (i + 1).toNat), t.count⟩ : NetM) := by
    unfold rout_m
    all_goals rfl
  rewrite [he1]
  exact ⟨_, _, _, _, _, rfl, how_t_c, (st.picks [0, 1] (by decide)).pickK [3], hF, kc_s (.inl (by simp [keys])) (kc_b hnewA_t_c (kc_n))⟩

def rtake_m (t : NetM) (i : Int) : MsgV × Int × NetM :=
  if ((rat_m t i).2) = 0 then
    if (rapart_m t (((rat_m t i).1).f) (((rat_m t i).1).t)) = true then
      ((⟨0, 0, []⟩ : MsgV), 9, t)
    else
      ((⟨((rat_m t i).1).f, ((rat_m t i).1).t, ((rat_m t i).1).s⟩ : MsgV), 0, (⟨(rout_m t i).c, (rout_m t i).l, (rout_m t i).count⟩ : NetM))
  else
    ((⟨0, 0, []⟩ : MsgV), (rat_m t i).2, t)

set_option maxRecDepth 20000 in
theorem rtake_ok (X : List Nat) (w : World) (g_t : Nat) (t : NetM) (A_t_c : Option Addr) (c_t_c : Nat) (sp_t_c : List Value) (A_t_l : Option Addr) (c_t_l : Nat) (i : Int) (hs : St X w [(some g_t, Cl [.slice A_t_c t.c.length c_t_c, .slice A_t_l t.l.length c_t_l, .int .i64 t.count] 118), (blkOf A_t_c, Cl (t.c.flatMap (fun x => [Value.int .i64 x]) ++ sp_t_c) 3)] [kS A_t_l t.l.length c_t_l 3 (t.l.flatMap msgC)]) (how_t_c : Ow A_t_c t.c.length c_t_c 1 (t.c.flatMap (fun x => [Value.int .i64 x])) sp_t_c) (hr : t.l.length ≤ 128) :
    Fn Try.prog 22 [.pointer (some ⟨g_t, 0, none⟩), .int .i64 i] w fun v w' => ∃ (Ac' : Option Addr) (cc' : Nat) (spc' : List Value) (Al' : Option Addr) (cl' : Nat), v = .tuple #[.agg (msgC ((rtake_m t i).1)).toArray, .int .i64 ((rtake_m t i).2.1)] ∧ Ow Ac' ((rtake_m t i).2.2).c.length cc' 1 (((rtake_m t i).2.2).c.flatMap (fun x => [Value.int .i64 x])) spc' ∧ St X w' [(some g_t, Cl [.slice Ac' ((rtake_m t i).2.2).c.length cc', .slice Al' ((rtake_m t i).2.2).l.length cl', .int .i64 (((rtake_m t i).2.2).count)] 118), (blkOf Ac', Cl (((rtake_m t i).2.2).c.flatMap (fun x => [Value.int .i64 x]) ++ spc') 3)] [kS Al' ((rtake_m t i).2.2).l.length cl' 3 (((rtake_m t i).2.2).l.flatMap msgC)] ∧ Fr (keys [(some g_t, Cl [.slice A_t_c t.c.length c_t_c, .slice A_t_l t.l.length c_t_l, .int .i64 t.count] 118), (blkOf A_t_c, Cl (t.c.flatMap (fun x => [Value.int .i64 x]) ++ sp_t_c) 3)]) w w' ∧ (∀ k ∈ keys [(some g_t, Cl [.slice Ac' ((rtake_m t i).2.2).c.length cc', .slice Al' ((rtake_m t i).2.2).l.length cl', .int .i64 (((rtake_m t i).2.2).count)] 118), (blkOf Ac', Cl (((rtake_m t i).2.2).c.flatMap (fun x => [Value.int .i64 x]) ++ spc') 3)], k ∈ (keys [(some g_t, Cl [.slice A_t_c t.c.length c_t_c, .slice A_t_l t.l.length c_t_l, .int .i64 t.count] 118), (blkOf A_t_c, Cl (t.c.flatMap (fun x => [Value.int .i64 x]) ++ sp_t_c) 3)]) ∨ w.heap.size ≤ k) := by
  refine Fn_of 29 Ty.en_22 Try.func22 rfl rfl rfl ?_
  dsimp only [argEnv]
  have hs0 := hs
  have st : St X w [(some g_t, Cl [.slice A_t_c t.c.length c_t_c, .slice A_t_l t.l.length c_t_l, .int .i64 t.count] 118), (blkOf A_t_c, Cl (t.c.flatMap (fun x => [Value.int .i64 x]) ++ sp_t_c) 3)] [kS A_t_l t.l.length c_t_l 3 (t.l.flatMap msgC)] := hs
  have hnewA_t_c : ∀ g, blkOf A_t_c = some g → g ∈ (keys [(some g_t, Cl [.slice A_t_c t.c.length c_t_c, .slice A_t_l t.l.length c_t_l, .int .i64 t.count] 118), (blkOf A_t_c, Cl (t.c.flatMap (fun x => [Value.int .i64 x]) ++ sp_t_c) 3)]) ∨ w.heap.size ≤ g := fun g hg => .inl (by simp [keys, hg])
  have hleA_t_c := Ow.le how_t_c
  have hF := Fr.refl (keys [(some g_t, Cl [.slice A_t_c t.c.length c_t_c, .slice A_t_l t.l.length c_t_l, .int .i64 t.count] 118), (blkOf A_t_c, Cl (t.c.flatMap (fun x => [Value.int .i64 x]) ++ sp_t_c) 3)]) w
  have hleA_t_l := (st.k (i := 0) rfl).le
  refine Wp_seq fun K1 hK1 => ?_
  refine Wp_region ?_
  refine Ls_a (wtd0 rfl) ?_
  refine a_alloc rfl rfl rfl Ty.zc_46 st.hp (fun g1 w1 (hp : Hp w1 [(_, Cl [_, _, _] _), _, (_, Cl [_, _, _] _)]) hf hg1 => ?_)
  have st : St X w1 [(_, Cl [_, _, _] _), _, (_, Cl [_, _, _] _)] [kS A_t_l t.l.length c_t_l 3 (t.l.flatMap msgC)] := st.push hp hf hg1
  have hg1 := Nat.le_trans hF.size hg1
  have hF := hF.step0 hf
  refine Ls_y (wtd0 rfl) rfl rfl (y_assign rfl rfl) ?_
  refine Ls_nil (Th_n (hK1 _ _ ?_))
  refine Wp_seq fun K2 hK2 => ?_
  refine Wp_region ?_
  refine Ls_y (wtd0 rfl) rfl rfl (y_move rfl rfl) ?_
  refine Ls_y (wtd0 rfl) rfl rfl (y_move rfl rfl) ?_
  refine Ls_a (wtd0 rfl) ?_
  refine a_call rfl rfl rfl rfl (rat_ok (keys (pickL (hOf st) [2]) ++ X) _ g_t t A_t_c c_t_c sp_t_c A_t_l c_t_l i (st.sub [2] [0, 1] [0] (by decide)) how_t_c) (fun v w2 ⟨hv, hf⟩ => ?_)
  subst hv
  have st := st.keep0 hf
  have hF := hF.step0 hf
  have st : St X w2 [(some g_t, Cl [.slice A_t_c t.c.length c_t_c, .slice A_t_l t.l.length c_t_l, .int .i64 t.count] 118), (blkOf A_t_c, Cl (t.c.flatMap (fun x => [Value.int .i64 x]) ++ sp_t_c) 3), (some g1, Cl [.int .i64 0, .int .i64 0, sv []] 46)] [kS A_t_l t.l.length c_t_l 3 (t.l.flatMap msgC)] := st
  refine Ls_y (wtd0 rfl) rfl rfl (y_move rfl rfl) ?_
  refine Ls_y (wtd0 rfl) rfl rfl (y_ext rfl rfl rfl) ?_
  refine Ls_y (wtd0 rfl) rfl rfl (y_ext rfl rfl rfl) ?_
  refine Ls_a (wtd0 rfl) ?_
  refine a_alloc rfl rfl rfl Ty.zc_46 st.hp (fun g2 w3 (hp : Hp w3 [(_, Cl [_, _, _] _), _, (_, Cl [_, _, _] _), (_, Cl [_, _, _] _)]) hf hg2 => ?_)
  have st : St X w3 [(_, Cl [_, _, _] _), _, (_, Cl [_, _, _] _), (_, Cl [_, _, _] _)] [kS A_t_l t.l.length c_t_l 3 (t.l.flatMap msgC)] := st.push hp hf hg2
  have hg2 := Nat.le_trans hF.size hg2
  have hF := hF.step0 hf
  refine Ls_a (wtd0 rfl) ?_
  refine a_storew (i := 3) rfl rfl rfl rfl Ty.sz_46 rfl (by first | assumption | (simp [Value.oneCell', msgC]; done)) st.hp rfl rfl (fun w4 (hp : Hp w4 [(_, Cl [_, _, _] _), _, (_, Cl [_, _, _] _), (_, Cl [_, _, _] _)]) hf _ => ?_)
  have st : St X w4 [(_, Cl [_, _, _] _), _, (_, Cl [_, _, _] _), (_, Cl [_, _, _] _)] [kS A_t_l t.l.length c_t_l 3 (t.l.flatMap msgC)] := st.set (i := 3) rfl hp hf
  have hF := hF.step hf (by intro y hy; simp only [List.mem_cons, List.not_mem_nil, or_false] at hy; subst hy; first | (exact Or.inr (by omega)) | (exact Or.inl (kin0 _ _)) | (exact Or.inl (by simp)))
  refine Ls_y (wtd0 rfl) rfl rfl (y_assign rfl rfl) ?_
  refine Ls_nil (Th_n (hK2 _ _ ?_))
  refine Wp_seq fun K3 hK3 => ?_
  refine Wp_seq fun K4 hK4 => ?_
  refine Wp_region ?_
  refine Ls_y (wtd0 rfl) rfl rfl (y_move rfl rfl) ?_
  refine Ls_y (wtd0 rfl) rfl rfl (y_ne rfl rfl rfl) ?_
  refine Ls_nil (Th_n (hK4 _ _ ?_))
  refine Wp_cond rfl (fun hc1 => ?_) (fun hc1 => ?_)
  · have hc1 : ¬ (((rat_m t i).2) = 0) := by first | simpa using hc1 | (intro hh; rw [hh] at hc1; cases hc1)
    refine Wp_seq fun K5 hK5 => ?_
    refine Wp_region ?_
    refine Ls_y (wtd0 rfl) rfl rfl (y_build (cells := [_, _, _]) rfl rfl Ty.zc_46 Ty.ps_46 rfl) ?_
    refine Ls_y (wtd0 rfl) rfl rfl (y_move rfl rfl) ?_
    refine Ls_a (wtd0 rfl) ?_
    refine a_storew (i := 2) rfl rfl rfl rfl Ty.sz_46 rfl (by first | assumption | (simp [Value.oneCell']; done)) st.hp rfl rfl (fun w5 (hp : Hp w5 [(_, Cl [_, _, _] _), _, (_, Cl [_, _, _] _), (_, Cl [_, _, _] _)]) hf _ => ?_)
    have st : St X w5 [(_, Cl [_, _, _] _), _, (_, Cl [_, _, _] _), (_, Cl [_, _, _] _)] [kS A_t_l t.l.length c_t_l 3 (t.l.flatMap msgC)] := st.set (i := 2) rfl hp hf
    have hF := hF.step hf (by intro y hy; simp only [List.mem_cons, List.not_mem_nil, or_false] at hy; subst hy; first | (exact Or.inr (by omega)) | (exact Or.inl (kin0 _ _)) | (exact Or.inl (by simp)))
    refine Ls_y (wtd0 rfl) rfl rfl (y_assign rfl rfl) ?_
    refine Ls_nil (Th_n (hK5 _ _ ?_))
    refine Wp_ret (Th_r (Fq_ret (ResN2 rfl (rvc (i := 2) rfl Ty.ag_46 st.hp rfl rfl) rfl) ?_))
    have he1 : rtake_m t i = ((⟨0, 0, []⟩ : MsgV), (rat_m t i).2, t) := by
      unfold rtake_m
      all_goals rewrite [if_neg hc1]
      all_goals rfl
    rewrite [he1]
    exact ⟨_, _, _, _, _, rfl, how_t_c, (st.picks [0, 1] (by decide)).pickK [0], hF, kc_s (.inl (by simp [keys])) (kc_b hnewA_t_c (kc_n))⟩
  · have hc1 : ((rat_m t i).2) = 0 := by first | simpa using hc1 | (intro hh; rw [hh] at hc1; cases hc1)
    have khc1 := rat_fine hc1
    refine Wp_skip (Th_n (hK3 _ _ ?_))
    refine Wp_seq fun K6 hK6 => ?_
    refine Wp_seq fun K7 hK7 => ?_
    refine Wp_region ?_
    refine Ls_y (wtd0 rfl) rfl rfl (y_move rfl rfl) ?_
    refine Ls_y (wtd0 rfl) rfl rfl (y_fld rfl rfl Ty.fo_46_0) ?_
    refine Ls_y (wtd0 rfl) rfl rfl (y_load (i := 3) rfl rfl Ty.pl_3 (fun _ e => e ▸ st.hp) rfl rfl) ?_
    refine Ls_y (wtd0 rfl) rfl rfl (y_fld rfl rfl Ty.fo_46_1) ?_
    refine Ls_y (wtd0 rfl) rfl rfl (y_load (i := 3) rfl rfl Ty.pl_3 (fun _ e => e ▸ st.hp) rfl rfl) ?_
    refine Ls_a (wtd0 rfl) ?_
    refine a_call rfl rfl rfl rfl (rapart_ok (keys (pickL (hOf st) [2, 3]) ++ X) _ g_t t A_t_c c_t_c sp_t_c A_t_l c_t_l (((rat_m t i).1).f) (((rat_m t i).1).t) (st.sub [2, 3] [0, 1] [0] (by decide)) how_t_c) (fun v w6 ⟨hv, hf⟩ => ?_)
    subst hv
    have st := st.keep0 hf
    have hF := hF.step0 hf
    have st : St X w6 [(some g_t, Cl [.slice A_t_c t.c.length c_t_c, .slice A_t_l t.l.length c_t_l, .int .i64 t.count] 118), (blkOf A_t_c, Cl (t.c.flatMap (fun x => [Value.int .i64 x]) ++ sp_t_c) 3), (some g1, Cl [.int .i64 0, .int .i64 0, sv []] 46), (some g2, Cl [.int .i64 (((rat_m t i).1).f), .int .i64 (((rat_m t i).1).t), sv (((rat_m t i).1).s)] 46)] [kS A_t_l t.l.length c_t_l 3 (t.l.flatMap msgC)] := st
    refine Ls_nil (Th_n (hK7 _ _ ?_))
    refine Wp_cond rfl (fun hc2 => ?_) (fun hc2 => ?_)
    · have hc2 : (rapart_m t (((rat_m t i).1).f) (((rat_m t i).1).t)) = true := by first | simpa using hc2 | (intro hh; rw [hh] at hc2; cases hc2)
      refine Wp_seq fun K8 hK8 => ?_
      refine Wp_region ?_
      refine Ls_y (wtd0 rfl) rfl rfl (y_build (cells := [_, _, _]) rfl rfl Ty.zc_46 Ty.ps_46 rfl) ?_
      refine Ls_a (wtd0 rfl) ?_
      refine a_storew (i := 2) rfl rfl rfl rfl Ty.sz_46 rfl (by first | assumption | (simp [Value.oneCell']; done)) st.hp rfl rfl (fun w7 (hp : Hp w7 [(_, Cl [_, _, _] _), _, (_, Cl [_, _, _] _), (_, Cl [_, _, _] _)]) hf _ => ?_)
      have st : St X w7 [(_, Cl [_, _, _] _), _, (_, Cl [_, _, _] _), (_, Cl [_, _, _] _)] [kS A_t_l t.l.length c_t_l 3 (t.l.flatMap msgC)] := st.set (i := 2) rfl hp hf
      have hF := hF.step hf (by intro y hy; simp only [List.mem_cons, List.not_mem_nil, or_false] at hy; subst hy; first | (exact Or.inr (by omega)) | (exact Or.inl (kin0 _ _)) | (exact Or.inl (by simp)))
      refine Ls_y (wtd0 rfl) rfl rfl (y_assign rfl rfl) ?_
      refine Ls_nil (Th_n (hK8 _ _ ?_))
      refine Wp_ret (Th_r (Fq_ret (ResN2 rfl (rvc (i := 2) rfl Ty.ag_46 st.hp rfl rfl) rfl) ?_))
      have he2 : rtake_m t i = ((⟨0, 0, []⟩ : MsgV), 9, t) := by
        unfold rtake_m
        all_goals rewrite [if_pos hc1]
        all_goals rewrite [if_pos hc2]
        all_goals rfl
      rewrite [he2]
      exact ⟨_, _, _, _, _, rfl, how_t_c, (st.picks [0, 1] (by decide)).pickK [0], hF, kc_s (.inl (by simp [keys])) (kc_b hnewA_t_c (kc_n))⟩
    · have hc2 : ¬ ((rapart_m t (((rat_m t i).1).f) (((rat_m t i).1).t)) = true) := by first | simpa using hc2 | (intro hh; rw [hh] at hc2; cases hc2)
      refine Wp_skip (Th_n (hK6 _ _ ?_))
      refine Wp_seq fun K9 hK9 => ?_
      refine Wp_region ?_
      refine Ls_y (wtd0 rfl) rfl rfl (y_move rfl rfl) ?_
      refine Ls_y (wtd0 rfl) rfl rfl (y_move rfl rfl) ?_
      refine Ls_a (wtd0 rfl) ?_
      refine a_call rfl rfl rfl rfl (rout_ok (keys (pickL (hOf st) [2, 3]) ++ X) _ g_t t A_t_c c_t_c sp_t_c A_t_l c_t_l i (st.sub [2, 3] [0, 1] [0] (by decide)) how_t_c hr (by omega)) (fun v w8 ⟨Ao1, co1, spo1, Ao2, co2, hv, how1, hN1, hfO1, hkc1⟩ => ?_)
      subst hv
      have hnew1 : ∀ g, blkOf Ao1 = some g → g ∈ (keys [(some g_t, Cl [.slice A_t_c t.c.length c_t_c, .slice A_t_l t.l.length c_t_l, .int .i64 t.count] 118), (blkOf A_t_c, Cl (t.c.flatMap (fun x => [Value.int .i64 x]) ++ sp_t_c) 3)]) ∨ w.heap.size ≤ g := fun g hg => (hkc1 g (by simp [keys, hg])).elim (fun h => (kc_s (.inl (by simp [keys])) (kc_b hnewA_t_c (kc_n))) g h) (fun h => .inr (Nat.le_trans hF.size h))
      have hlehow1 := Ow.le how1
      have st := st.callS [2, 3] [0, 1] (by decide) rfl hN1 hfO1 hkc1
      have hF := hF.step hfO1 (kc_s (.inl (by simp [keys])) (kc_b hnewA_t_c (kc_n)))
      have st : St X w8 [(some g1, Cl [.int .i64 0, .int .i64 0, sv []] 46), (some g2, Cl [.int .i64 (((rat_m t i).1).f), .int .i64 (((rat_m t i).1).t), sv (((rat_m t i).1).s)] 46), (some g_t, Cl [.slice Ao1 ((rout_m t i).c.length) co1, .slice Ao2 ((rout_m t i).l.length) co2, .int .i64 ((rout_m t i).count)] 118), (blkOf Ao1, Cl (((rout_m t i).c).flatMap (fun x => [Value.int .i64 x]) ++ spo1) 3)] [kS A_t_l t.l.length c_t_l 3 (t.l.flatMap msgC), kS Ao2 (rout_m t i).l.length co2 3 ((rout_m t i).l.flatMap msgC)] := st
      refine Ls_nil (Th_n (hK9 _ _ ?_))
      refine Wp_seq fun K10 hK10 => ?_
      refine Wp_region ?_
      refine Ls_y (wtd0 rfl) rfl rfl (y_loadw (i := 1) rfl rfl Ty.ag_46 (fun _ e => e ▸ st.hp) rfl rfl) ?_
      refine Ls_a (wtd0 rfl) ?_
      refine a_storew (i := 0) rfl rfl rfl rfl Ty.sz_46 rfl (by first | assumption | (simp [Value.oneCell']; done)) st.hp rfl rfl (fun w9 (hp : Hp w9 [(_, Cl [_, _, _] _), (_, Cl [_, _, _] _), (_, Cl [_, _, _] _), _]) hf _ => ?_)
      have st : St X w9 [(_, Cl [_, _, _] _), (_, Cl [_, _, _] _), (_, Cl [_, _, _] _), _] [kS A_t_l t.l.length c_t_l 3 (t.l.flatMap msgC), kS Ao2 (rout_m t i).l.length co2 3 ((rout_m t i).l.flatMap msgC)] := st.set (i := 0) rfl hp hf
      have hF := hF.step hf (by intro y hy; simp only [List.mem_cons, List.not_mem_nil, or_false] at hy; subst hy; first | (exact Or.inr (by omega)) | (exact Or.inl (kin0 _ _)) | (exact Or.inl (by simp)))
      refine Ls_y (wtd0 rfl) rfl rfl (y_assign rfl rfl) ?_
      refine Ls_nil (Th_n (hK10 _ _ ?_))
      refine Wp_ret (Fq_ret (ResN2 rfl (rvc (i := 0) rfl Ty.ag_46 st.hp rfl rfl) rfl) ?_)
      have hfl : (rout_m t i).c.length = ((rout_m t i).c).length := by simp
      have how2 := how1
      rewrite [hfl] at how2
      have st : St X _ [(some g1, Cl [.int .i64 (((rat_m t i).1).f), .int .i64 (((rat_m t i).1).t), sv (((rat_m t i).1).s)] 46), (some g2, Cl [.int .i64 (((rat_m t i).1).f), .int .i64 (((rat_m t i).1).t), sv (((rat_m t i).1).s)] 46), (some g_t, Cl [.slice Ao1 (((rout_m t i).c).length) co1, .slice Ao2 ((rout_m t i).l.length) co2, .int .i64 ((rout_m t i).count)] 118), (blkOf Ao1, Cl (((rout_m t i).c).flatMap (fun x => [Value.int .i64 x]) ++ spo1) 3)] [kS A_t_l t.l.length c_t_l 3 (t.l.flatMap msgC), kS Ao2 (rout_m t i).l.length co2 3 ((rout_m t i).l.flatMap msgC)] := st.conv (i := 2) (cs' := [.slice Ao1 (((rout_m t i).c).length) co1, .slice Ao2 ((rout_m t i).l.length) co2, .int .i64 ((rout_m t i).count)]) rfl (by simp)
      have he3 : rtake_m t i = ((⟨((rat_m t i).1).f, ((rat_m t i).1).t, ((rat_m t i).1).s⟩ : MsgV), 0, (⟨(rout_m t i).c, (rout_m t i).l, (rout_m t i).count⟩ : NetM)) := by
        unfold rtake_m
        all_goals rewrite [if_pos hc1]
        all_goals rewrite [if_neg hc2]
        all_goals rfl
      rewrite [he3]
      exact ⟨_, _, _, _, _, rfl, how2, (st.picks [2, 3] (by decide)).pickK [1], hF, kc_s (.inl (by simp [keys])) (kc_b hnew1 (kc_n))⟩

def rdrop_m (t : NetM) (i : Int) : Int × NetM :=
  if ((rat_m t i).2) = 0 then
    ((rat_m t i).2, (⟨(rout_m t i).c, (rout_m t i).l, ((rout_m t i).count) + 1⟩ : NetM))
  else
    ((rat_m t i).2, t)

set_option maxRecDepth 20000 in
theorem rdrop_ok (X : List Nat) (w : World) (g_t : Nat) (t : NetM) (A_t_c : Option Addr) (c_t_c : Nat) (sp_t_c : List Value) (A_t_l : Option Addr) (c_t_l : Nat) (i : Int) (hs : St X w [(some g_t, Cl [.slice A_t_c t.c.length c_t_c, .slice A_t_l t.l.length c_t_l, .int .i64 t.count] 118), (blkOf A_t_c, Cl (t.c.flatMap (fun x => [Value.int .i64 x]) ++ sp_t_c) 3)] [kS A_t_l t.l.length c_t_l 3 (t.l.flatMap msgC)]) (how_t_c : Ow A_t_c t.c.length c_t_c 1 (t.c.flatMap (fun x => [Value.int .i64 x])) sp_t_c) (hr : t.l.length ≤ 128) (hc : 0 ≤ t.count ∧ t.count ≤ 1000000) :
    Fn Try.prog 25 [.pointer (some ⟨g_t, 0, none⟩), .int .i64 i] w fun v w' => ∃ (Ac' : Option Addr) (cc' : Nat) (spc' : List Value) (Al' : Option Addr) (cl' : Nat), v = .int .i64 ((rdrop_m t i).1) ∧ Ow Ac' ((rdrop_m t i).2).c.length cc' 1 (((rdrop_m t i).2).c.flatMap (fun x => [Value.int .i64 x])) spc' ∧ St X w' [(some g_t, Cl [.slice Ac' ((rdrop_m t i).2).c.length cc', .slice Al' ((rdrop_m t i).2).l.length cl', .int .i64 (((rdrop_m t i).2).count)] 118), (blkOf Ac', Cl (((rdrop_m t i).2).c.flatMap (fun x => [Value.int .i64 x]) ++ spc') 3)] [kS Al' ((rdrop_m t i).2).l.length cl' 3 (((rdrop_m t i).2).l.flatMap msgC)] ∧ Fr (keys [(some g_t, Cl [.slice A_t_c t.c.length c_t_c, .slice A_t_l t.l.length c_t_l, .int .i64 t.count] 118), (blkOf A_t_c, Cl (t.c.flatMap (fun x => [Value.int .i64 x]) ++ sp_t_c) 3)]) w w' ∧ (∀ k ∈ keys [(some g_t, Cl [.slice Ac' ((rdrop_m t i).2).c.length cc', .slice Al' ((rdrop_m t i).2).l.length cl', .int .i64 (((rdrop_m t i).2).count)] 118), (blkOf Ac', Cl (((rdrop_m t i).2).c.flatMap (fun x => [Value.int .i64 x]) ++ spc') 3)], k ∈ (keys [(some g_t, Cl [.slice A_t_c t.c.length c_t_c, .slice A_t_l t.l.length c_t_l, .int .i64 t.count] 118), (blkOf A_t_c, Cl (t.c.flatMap (fun x => [Value.int .i64 x]) ++ sp_t_c) 3)]) ∨ w.heap.size ≤ k) := by
  refine Fn_of 26 Ty.en_25 Try.func25 rfl rfl rfl ?_
  dsimp only [argEnv]
  have hs0 := hs
  have st : St X w [(some g_t, Cl [.slice A_t_c t.c.length c_t_c, .slice A_t_l t.l.length c_t_l, .int .i64 t.count] 118), (blkOf A_t_c, Cl (t.c.flatMap (fun x => [Value.int .i64 x]) ++ sp_t_c) 3)] [kS A_t_l t.l.length c_t_l 3 (t.l.flatMap msgC)] := hs
  have hnewA_t_c : ∀ g, blkOf A_t_c = some g → g ∈ (keys [(some g_t, Cl [.slice A_t_c t.c.length c_t_c, .slice A_t_l t.l.length c_t_l, .int .i64 t.count] 118), (blkOf A_t_c, Cl (t.c.flatMap (fun x => [Value.int .i64 x]) ++ sp_t_c) 3)]) ∨ w.heap.size ≤ g := fun g hg => .inl (by simp [keys, hg])
  have hleA_t_c := Ow.le how_t_c
  have hF := Fr.refl (keys [(some g_t, Cl [.slice A_t_c t.c.length c_t_c, .slice A_t_l t.l.length c_t_l, .int .i64 t.count] 118), (blkOf A_t_c, Cl (t.c.flatMap (fun x => [Value.int .i64 x]) ++ sp_t_c) 3)]) w
  have hleA_t_l := (st.k (i := 0) rfl).le
  have hrc : (rout_m t i).count = t.count := rfl
  refine Wp_seq fun K1 hK1 => ?_
  refine Wp_region ?_
  refine Ls_y (wtd0 rfl) rfl rfl (y_assign rfl rfl) ?_
  refine Ls_nil (Th_n (hK1 _ _ ?_))
  refine Wp_seq fun K2 hK2 => ?_
  refine Wp_region ?_
  refine Ls_y (wtd0 rfl) rfl rfl (y_move rfl rfl) ?_
  refine Ls_y (wtd0 rfl) rfl rfl (y_move rfl rfl) ?_
  refine Ls_a (wtd0 rfl) ?_
  refine a_call rfl rfl rfl rfl (rat_ok (keys (pickL (hOf st) []) ++ X) _ g_t t A_t_c c_t_c sp_t_c A_t_l c_t_l i (st.sub [] [0, 1] [0] (by decide)) how_t_c) (fun v w1 ⟨hv, hf⟩ => ?_)
  subst hv
  have st := st.keep0 hf
  have hF := hF.step0 hf
  have st : St X w1 [(some g_t, Cl [.slice A_t_c t.c.length c_t_c, .slice A_t_l t.l.length c_t_l, .int .i64 t.count] 118), (blkOf A_t_c, Cl (t.c.flatMap (fun x => [Value.int .i64 x]) ++ sp_t_c) 3)] [kS A_t_l t.l.length c_t_l 3 (t.l.flatMap msgC)] := st
  refine Ls_y (wtd0 rfl) rfl rfl (y_move rfl rfl) ?_
  refine Ls_y (wtd0 rfl) rfl rfl (y_ext rfl rfl rfl) ?_
  refine Ls_y (wtd0 rfl) rfl rfl (y_ext rfl rfl rfl) ?_
  refine Ls_a (wtd0 rfl) ?_
  refine a_alloc rfl rfl rfl Ty.zc_46 st.hp (fun g1 w2 (hp : Hp w2 [(_, Cl [_, _, _] _), _, (_, Cl [_, _, _] _)]) hf hg1 => ?_)
  have st : St X w2 [(_, Cl [_, _, _] _), _, (_, Cl [_, _, _] _)] [kS A_t_l t.l.length c_t_l 3 (t.l.flatMap msgC)] := st.push hp hf hg1
  have hg1 := Nat.le_trans hF.size hg1
  have hF := hF.step0 hf
  refine Ls_a (wtd0 rfl) ?_
  refine a_storew (i := 2) rfl rfl rfl rfl Ty.sz_46 rfl (by first | assumption | (simp [Value.oneCell', msgC]; done)) st.hp rfl rfl (fun w3 (hp : Hp w3 [(_, Cl [_, _, _] _), _, (_, Cl [_, _, _] _)]) hf _ => ?_)
  have st : St X w3 [(_, Cl [_, _, _] _), _, (_, Cl [_, _, _] _)] [kS A_t_l t.l.length c_t_l 3 (t.l.flatMap msgC)] := st.set (i := 2) rfl hp hf
  have hF := hF.step hf (by intro y hy; simp only [List.mem_cons, List.not_mem_nil, or_false] at hy; subst hy; first | (exact Or.inr (by omega)) | (exact Or.inl (kin0 _ _)) | (exact Or.inl (by simp)))
  refine Ls_y (wtd0 rfl) rfl rfl (y_assign rfl rfl) ?_
  refine Ls_nil (Th_n (hK2 _ _ ?_))
  refine Wp_seq fun K3 hK3 => ?_
  refine Wp_seq fun K4 hK4 => ?_
  refine Wp_region ?_
  refine Ls_y (wtd0 rfl) rfl rfl (y_move rfl rfl) ?_
  refine Ls_y (wtd0 rfl) rfl rfl (y_eq rfl rfl rfl) ?_
  refine Ls_nil (Th_n (hK4 _ _ ?_))
  refine Wp_cond rfl (fun hc1 => ?_) (fun hc1 => ?_)
  · have hc1 : ((rat_m t i).2) = 0 := by first | simpa using hc1 | (intro hh; rw [hh] at hc1; cases hc1)
    have khc1 := rat_fine hc1
    refine Wp_seq fun K5 hK5 => ?_
    refine Wp_region ?_
    refine Ls_y (wtd0 rfl) rfl rfl (y_move rfl rfl) ?_
    refine Ls_y (wtd0 rfl) rfl rfl (y_move rfl rfl) ?_
    refine Ls_a (wtd0 rfl) ?_
    refine a_call rfl rfl rfl rfl (rout_ok (keys (pickL (hOf st) [2]) ++ X) _ g_t t A_t_c c_t_c sp_t_c A_t_l c_t_l i (st.sub [2] [0, 1] [0] (by decide)) how_t_c hr (by omega)) (fun v w4 ⟨Ao1, co1, spo1, Ao2, co2, hv, how1, hN1, hfO1, hkc1⟩ => ?_)
    subst hv
    have hnew1 : ∀ g, blkOf Ao1 = some g → g ∈ (keys [(some g_t, Cl [.slice A_t_c t.c.length c_t_c, .slice A_t_l t.l.length c_t_l, .int .i64 t.count] 118), (blkOf A_t_c, Cl (t.c.flatMap (fun x => [Value.int .i64 x]) ++ sp_t_c) 3)]) ∨ w.heap.size ≤ g := fun g hg => (hkc1 g (by simp [keys, hg])).elim (fun h => (kc_s (.inl (by simp [keys])) (kc_b hnewA_t_c (kc_n))) g h) (fun h => .inr (Nat.le_trans hF.size h))
    have hlehow1 := Ow.le how1
    have st := st.callS [2] [0, 1] (by decide) rfl hN1 hfO1 hkc1
    have hF := hF.step hfO1 (kc_s (.inl (by simp [keys])) (kc_b hnewA_t_c (kc_n)))
    have st : St X w4 [(some g1, Cl [.int .i64 (((rat_m t i).1).f), .int .i64 (((rat_m t i).1).t), sv (((rat_m t i).1).s)] 46), (some g_t, Cl [.slice Ao1 ((rout_m t i).c.length) co1, .slice Ao2 ((rout_m t i).l.length) co2, .int .i64 ((rout_m t i).count)] 118), (blkOf Ao1, Cl (((rout_m t i).c).flatMap (fun x => [Value.int .i64 x]) ++ spo1) 3)] [kS A_t_l t.l.length c_t_l 3 (t.l.flatMap msgC), kS Ao2 (rout_m t i).l.length co2 3 ((rout_m t i).l.flatMap msgC)] := st
    refine Ls_nil (Th_n (hK5 _ _ ?_))
    refine Wp_region ?_
    refine Ls_y (wtd0 rfl) rfl rfl (y_move rfl rfl) ?_
    refine Ls_y (wtd0 rfl) rfl rfl (y_nil rfl rfl) ?_
    refine Ls_y (wtd0 rfl) rfl rfl (y_fld rfl rfl Ty.fo_118_2) ?_
    refine Ls_y (wtd0 rfl) rfl rfl (y_load (i := 1) rfl rfl Ty.pl_3 (fun _ e => e ▸ st.hp) rfl rfl) ?_
    refine Ls_y (wtd0 rfl) rfl rfl (y_add (c := ((rout_m t i).count) + 1) rfl rfl rfl (wf_i64 (by first | omega | (simp; done) | (simp; omega)))) ?_
    refine Ls_y (wtd0 rfl) rfl rfl (y_nil rfl rfl) ?_
    refine Ls_y (wtd0 rfl) rfl rfl (y_fld rfl rfl Ty.fo_118_2) ?_
    refine Ls_a (wtd0 rfl) ?_
    refine a_store (i := 1) rfl rfl rfl rfl rfl Ty.sz_3 rfl st.hp rfl (by simp) (fun w5 (hp : Hp w5 [(_, Cl [_, _, _] _), (_, Cl [_, _, _] _), _]) hf _ => ?_)
    have st : St X w5 [(_, Cl [_, _, _] _), (_, Cl [_, _, _] _), _] [kS A_t_l t.l.length c_t_l 3 (t.l.flatMap msgC), kS Ao2 (rout_m t i).l.length co2 3 ((rout_m t i).l.flatMap msgC)] := st.set (i := 1) rfl hp hf
    have hF := hF.step hf (by intro y hy; simp only [List.mem_cons, List.not_mem_nil, or_false] at hy; subst hy; first | (exact Or.inr (by omega)) | (exact Or.inl (kin0 _ _)) | (exact Or.inl (by simp)))
    refine Ls_nil (Th_n (hK3 _ _ ?_))
    refine Wp_seq fun K6 hK6 => ?_
    refine Wp_region ?_
    refine Ls_y (wtd0 rfl) rfl rfl (y_move rfl rfl) ?_
    refine Ls_y (wtd0 rfl) rfl rfl (y_assign rfl rfl) ?_
    refine Ls_nil (Th_n (hK6 _ _ ?_))
    refine Wp_ret (Fq_ret (Res1 rfl rfl) ?_)
    have hfl : (rout_m t i).c.length = ((rout_m t i).c).length := by simp
    have how2 := how1
    rewrite [hfl] at how2
    have st : St X _ [(some g1, Cl [.int .i64 (((rat_m t i).1).f), .int .i64 (((rat_m t i).1).t), sv (((rat_m t i).1).s)] 46), (some g_t, Cl [.slice Ao1 (((rout_m t i).c).length) co1, .slice Ao2 ((rout_m t i).l.length) co2, .int .i64 (((rout_m t i).count) + 1)] 118), (blkOf Ao1, Cl (((rout_m t i).c).flatMap (fun x => [Value.int .i64 x]) ++ spo1) 3)] [kS A_t_l t.l.length c_t_l 3 (t.l.flatMap msgC), kS Ao2 (rout_m t i).l.length co2 3 ((rout_m t i).l.flatMap msgC)] := st.conv (i := 1) (cs' := [.slice Ao1 (((rout_m t i).c).length) co1, .slice Ao2 ((rout_m t i).l.length) co2, .int .i64 (((rout_m t i).count) + 1)]) rfl (by simp)
    have he1 : rdrop_m t i = ((rat_m t i).2, (⟨(rout_m t i).c, (rout_m t i).l, ((rout_m t i).count) + 1⟩ : NetM)) := by
      unfold rdrop_m
      all_goals rewrite [if_pos hc1]
      all_goals rfl
    rewrite [he1]
    exact ⟨_, _, _, _, _, rfl, how2, (st.picks [1, 2] (by decide)).pickK [1], hF, kc_s (.inl (by simp [keys])) (kc_b hnew1 (kc_n))⟩
  · have hc1 : ¬ (((rat_m t i).2) = 0) := by first | simpa using hc1 | (intro hh; rw [hh] at hc1; cases hc1)
    refine Wp_skip (Th_n (hK3 _ _ ?_))
    refine Wp_seq fun K7 hK7 => ?_
    refine Wp_region ?_
    refine Ls_y (wtd0 rfl) rfl rfl (y_move rfl rfl) ?_
    refine Ls_y (wtd0 rfl) rfl rfl (y_assign rfl rfl) ?_
    refine Ls_nil (Th_n (hK7 _ _ ?_))
    refine Wp_ret (Fq_ret (Res1 rfl rfl) ?_)
    have he2 : rdrop_m t i = ((rat_m t i).2, t) := by
      unfold rdrop_m
      all_goals rewrite [if_neg hc1]
      all_goals rfl
    rewrite [he2]
    exact ⟨_, _, _, _, _, rfl, how_t_c, (st.picks [0, 1] (by decide)).pickK [0], hF, kc_s (.inl (by simp [keys])) (kc_b hnewA_t_c (kc_n))⟩

def rdouble_m (t : NetM) (i : Int) : Int × NetM :=
  if ((rat_m t i).2) = 0 then
    if 128 ≤ (t.l.length : Int) then
      (4, t)
    else
      (0, (⟨t.c, (([] : List MsgV) ++ t.l) ++ [(rat_m t i).1], t.count⟩ : NetM))
  else
    ((rat_m t i).2, t)

set_option maxRecDepth 20000 in
theorem rdouble_ok (X : List Nat) (w : World) (g_t : Nat) (t : NetM) (A_t_c : Option Addr) (c_t_c : Nat) (sp_t_c : List Value) (A_t_l : Option Addr) (c_t_l : Nat) (i : Int) (hs : St X w [(some g_t, Cl [.slice A_t_c t.c.length c_t_c, .slice A_t_l t.l.length c_t_l, .int .i64 t.count] 118), (blkOf A_t_c, Cl (t.c.flatMap (fun x => [Value.int .i64 x]) ++ sp_t_c) 3)] [kS A_t_l t.l.length c_t_l 3 (t.l.flatMap msgC)]) (how_t_c : Ow A_t_c t.c.length c_t_c 1 (t.c.flatMap (fun x => [Value.int .i64 x])) sp_t_c) (hr : t.l.length ≤ 128) :
    Fn Try.prog 27 [.pointer (some ⟨g_t, 0, none⟩), .int .i64 i] w fun v w' => ∃ (Ac' : Option Addr) (cc' : Nat) (spc' : List Value) (Al' : Option Addr) (cl' : Nat), v = .int .i64 ((rdouble_m t i).1) ∧ Ow Ac' ((rdouble_m t i).2).c.length cc' 1 (((rdouble_m t i).2).c.flatMap (fun x => [Value.int .i64 x])) spc' ∧ St X w' [(some g_t, Cl [.slice Ac' ((rdouble_m t i).2).c.length cc', .slice Al' ((rdouble_m t i).2).l.length cl', .int .i64 (((rdouble_m t i).2).count)] 118), (blkOf Ac', Cl (((rdouble_m t i).2).c.flatMap (fun x => [Value.int .i64 x]) ++ spc') 3)] [kS Al' ((rdouble_m t i).2).l.length cl' 3 (((rdouble_m t i).2).l.flatMap msgC)] ∧ Fr (keys [(some g_t, Cl [.slice A_t_c t.c.length c_t_c, .slice A_t_l t.l.length c_t_l, .int .i64 t.count] 118), (blkOf A_t_c, Cl (t.c.flatMap (fun x => [Value.int .i64 x]) ++ sp_t_c) 3)]) w w' ∧ (∀ k ∈ keys [(some g_t, Cl [.slice Ac' ((rdouble_m t i).2).c.length cc', .slice Al' ((rdouble_m t i).2).l.length cl', .int .i64 (((rdouble_m t i).2).count)] 118), (blkOf Ac', Cl (((rdouble_m t i).2).c.flatMap (fun x => [Value.int .i64 x]) ++ spc') 3)], k ∈ (keys [(some g_t, Cl [.slice A_t_c t.c.length c_t_c, .slice A_t_l t.l.length c_t_l, .int .i64 t.count] 118), (blkOf A_t_c, Cl (t.c.flatMap (fun x => [Value.int .i64 x]) ++ sp_t_c) 3)]) ∨ w.heap.size ≤ k) := by
  refine Fn_of 34 Ty.en_27 Try.func27 rfl rfl rfl ?_
  dsimp only [argEnv]
  have hs0 := hs
  have st : St X w [(some g_t, Cl [.slice A_t_c t.c.length c_t_c, .slice A_t_l t.l.length c_t_l, .int .i64 t.count] 118), (blkOf A_t_c, Cl (t.c.flatMap (fun x => [Value.int .i64 x]) ++ sp_t_c) 3)] [kS A_t_l t.l.length c_t_l 3 (t.l.flatMap msgC)] := hs
  have hnewA_t_c : ∀ g, blkOf A_t_c = some g → g ∈ (keys [(some g_t, Cl [.slice A_t_c t.c.length c_t_c, .slice A_t_l t.l.length c_t_l, .int .i64 t.count] 118), (blkOf A_t_c, Cl (t.c.flatMap (fun x => [Value.int .i64 x]) ++ sp_t_c) 3)]) ∨ w.heap.size ≤ g := fun g hg => .inl (by simp [keys, hg])
  have hleA_t_c := Ow.le how_t_c
  have hF := Fr.refl (keys [(some g_t, Cl [.slice A_t_c t.c.length c_t_c, .slice A_t_l t.l.length c_t_l, .int .i64 t.count] 118), (blkOf A_t_c, Cl (t.c.flatMap (fun x => [Value.int .i64 x]) ++ sp_t_c) 3)]) w
  have hleA_t_l := (st.k (i := 0) rfl).le
  refine Wp_seq fun K1 hK1 => ?_
  refine Wp_region ?_
  refine Ls_y (wtd0 rfl) rfl rfl (y_assign rfl rfl) ?_
  refine Ls_nil (Th_n (hK1 _ _ ?_))
  refine Wp_seq fun K2 hK2 => ?_
  refine Wp_region ?_
  refine Ls_y (wtd0 rfl) rfl rfl (y_move rfl rfl) ?_
  refine Ls_y (wtd0 rfl) rfl rfl (y_move rfl rfl) ?_
  refine Ls_a (wtd0 rfl) ?_
  refine a_call rfl rfl rfl rfl (rat_ok (keys (pickL (hOf st) []) ++ X) _ g_t t A_t_c c_t_c sp_t_c A_t_l c_t_l i (st.sub [] [0, 1] [0] (by decide)) how_t_c) (fun v w1 ⟨hv, hf⟩ => ?_)
  subst hv
  have st := st.keep0 hf
  have hF := hF.step0 hf
  have st : St X w1 [(some g_t, Cl [.slice A_t_c t.c.length c_t_c, .slice A_t_l t.l.length c_t_l, .int .i64 t.count] 118), (blkOf A_t_c, Cl (t.c.flatMap (fun x => [Value.int .i64 x]) ++ sp_t_c) 3)] [kS A_t_l t.l.length c_t_l 3 (t.l.flatMap msgC)] := st
  refine Ls_y (wtd0 rfl) rfl rfl (y_move rfl rfl) ?_
  refine Ls_y (wtd0 rfl) rfl rfl (y_ext rfl rfl rfl) ?_
  refine Ls_y (wtd0 rfl) rfl rfl (y_ext rfl rfl rfl) ?_
  refine Ls_a (wtd0 rfl) ?_
  refine a_alloc rfl rfl rfl Ty.zc_46 st.hp (fun g1 w2 (hp : Hp w2 [(_, Cl [_, _, _] _), _, (_, Cl [_, _, _] _)]) hf hg1 => ?_)
  have st : St X w2 [(_, Cl [_, _, _] _), _, (_, Cl [_, _, _] _)] [kS A_t_l t.l.length c_t_l 3 (t.l.flatMap msgC)] := st.push hp hf hg1
  have hg1 := Nat.le_trans hF.size hg1
  have hF := hF.step0 hf
  refine Ls_a (wtd0 rfl) ?_
  refine a_storew (i := 2) rfl rfl rfl rfl Ty.sz_46 rfl (by first | assumption | (simp [Value.oneCell', msgC]; done)) st.hp rfl rfl (fun w3 (hp : Hp w3 [(_, Cl [_, _, _] _), _, (_, Cl [_, _, _] _)]) hf _ => ?_)
  have st : St X w3 [(_, Cl [_, _, _] _), _, (_, Cl [_, _, _] _)] [kS A_t_l t.l.length c_t_l 3 (t.l.flatMap msgC)] := st.set (i := 2) rfl hp hf
  have hF := hF.step hf (by intro y hy; simp only [List.mem_cons, List.not_mem_nil, or_false] at hy; subst hy; first | (exact Or.inr (by omega)) | (exact Or.inl (kin0 _ _)) | (exact Or.inl (by simp)))
  refine Ls_y (wtd0 rfl) rfl rfl (y_assign rfl rfl) ?_
  refine Ls_nil (Th_n (hK2 _ _ ?_))
  refine Wp_seq fun K3 hK3 => ?_
  refine Wp_seq fun K4 hK4 => ?_
  refine Wp_region ?_
  refine Ls_y (wtd0 rfl) rfl rfl (y_move rfl rfl) ?_
  refine Ls_y (wtd0 rfl) rfl rfl (y_ne rfl rfl rfl) ?_
  refine Ls_nil (Th_n (hK4 _ _ ?_))
  refine Wp_cond rfl (fun hc1 => ?_) (fun hc1 => ?_)
  · have hc1 : ¬ (((rat_m t i).2) = 0) := by first | simpa using hc1 | (intro hh; rw [hh] at hc1; cases hc1)
    refine Wp_seq fun K5 hK5 => ?_
    refine Wp_region ?_
    refine Ls_y (wtd0 rfl) rfl rfl (y_move rfl rfl) ?_
    refine Ls_y (wtd0 rfl) rfl rfl (y_assign rfl rfl) ?_
    refine Ls_nil (Th_n (hK5 _ _ ?_))
    refine Wp_ret (Th_r (Fq_ret (Res1 rfl rfl) ?_))
    have he1 : rdouble_m t i = ((rat_m t i).2, t) := by
      unfold rdouble_m
      all_goals rewrite [if_neg hc1]
      all_goals rfl
    rewrite [he1]
    exact ⟨_, _, _, _, _, rfl, how_t_c, (st.picks [0, 1] (by decide)).pickK [0], hF, kc_s (.inl (by simp [keys])) (kc_b hnewA_t_c (kc_n))⟩
  · have hc1 : ((rat_m t i).2) = 0 := by first | simpa using hc1 | (intro hh; rw [hh] at hc1; cases hc1)
    refine Wp_skip (Th_n (hK3 _ _ ?_))
    refine Wp_seq fun K6 hK6 => ?_
    refine Wp_seq fun K7 hK7 => ?_
    refine Wp_region ?_
    refine Ls_y (wtd0 rfl) rfl rfl (y_move rfl rfl) ?_
    refine Ls_y (wtd0 rfl) rfl rfl (y_nil rfl rfl) ?_
    refine Ls_y (wtd0 rfl) rfl rfl (y_fld rfl rfl Ty.fo_118_1) ?_
    refine Ls_y (wtd0 rfl) rfl rfl (y_load (i := 0) rfl rfl Ty.pl_116 (fun _ e => e ▸ st.hp) rfl rfl) ?_
    refine Ls_y (wtd0 rfl) rfl rfl (y_lenl rfl rfl Try.underlying116) ?_
    refine Ls_y (wtd0 rfl) rfl rfl (y_ge rfl rfl rfl) ?_
    refine Ls_nil (Th_n (hK7 _ _ ?_))
    refine Wp_cond rfl (fun hc2 => ?_) (fun hc2 => ?_)
    · have hc2 : 128 ≤ (t.l.length : Int) := by first | simpa using hc2 | (intro hh; rw [hh] at hc2; cases hc2)
      refine Wp_seq fun K8 hK8 => ?_
      refine Wp_region ?_
      refine Ls_y (wtd0 rfl) rfl rfl (y_assign rfl rfl) ?_
      refine Ls_nil (Th_n (hK8 _ _ ?_))
      refine Wp_ret (Th_r (Fq_ret (Res1 rfl rfl) ?_))
      have he2 : rdouble_m t i = (4, t) := by
        unfold rdouble_m
        all_goals rewrite [if_pos hc1]
        all_goals rewrite [if_pos hc2]
        all_goals rfl
      rewrite [he2]
      exact ⟨_, _, _, _, _, rfl, how_t_c, (st.picks [0, 1] (by decide)).pickK [0], hF, kc_s (.inl (by simp [keys])) (kc_b hnewA_t_c (kc_n))⟩
    · have hc2 : ¬ (128 ≤ (t.l.length : Int)) := by first | simpa using hc2 | (intro hh; rw [hh] at hc2; cases hc2)
      refine Wp_skip (Th_n (hK6 _ _ ?_))
      refine Wp_seq fun K9 hK9 => ?_
      refine Wp_pf (fun W => St X W (pickL (hOf st) [0, 1, 2]) (kOf st)) 13 12 rfl (by kernel_rfl) Ty.mx_0 ((st.picks [0, 1, 2] (by decide)).drew) ?_
      have st := st.drew
      have hF := hF.step0 (Fr.drew _)
      refine Pf_y (i := 0) rfl (by kernel_rfl) (wtd0 rfl) rfl rfl (y_move rfl rfl) ?_
      refine Pf_y (i := 2) rfl (by kernel_rfl) (wtd0 rfl) rfl rfl (y_move rfl rfl) ?_
      refine Pf_y (i := 3) rfl (by kernel_rfl) (wtd0 rfl) rfl rfl (y_nil rfl rfl) ?_
      refine Pf_y (i := 4) rfl (by kernel_rfl) (wtd0 rfl) rfl rfl (y_fld rfl rfl Ty.fo_118_1) ?_
      refine Pf_y (i := 5) rfl (by kernel_rfl) (wtd0 rfl) rfl rfl (y_load (i := 0) rfl rfl Ty.pl_116 (fun _ h => h.hp) rfl rfl) ?_
      refine Pf_y (i := 7) rfl (by kernel_rfl) (wtd0 rfl) rfl rfl (y_loadw (i := 2) rfl rfl Ty.ag_46 (fun _ h => h.hp) rfl rfl) ?_
      refine Pf_a2 (i := 1) (j := 8) (by kernel_rfl) rfl (wtd0 rfl) rfl (wtd0 rfl) ?_ ?_
      · refine a_bsl0 rfl rfl rfl Ty.es_116 Ty.zc_46 st.hp (fun g2 w4 (hp : Hp w4 [(_, Cl [_, _, _] _), _, (_, Cl [_, _, _] _), _]) hf hg2 => ?_)
        have how1 : Ow (some ⟨g2, 0, none⟩) ([] : List MsgV).length 0 3 (([] : List MsgV).flatMap msgC) [] := ⟨rfl, .inr ⟨g2, rfl, rfl, Nat.le_refl _, by unfold maxLen; decide⟩⟩
        have st : St X w4 [(_, Cl [_, _, _] _), _, (_, Cl [_, _, _] _), _] [kS A_t_l t.l.length c_t_l 3 (t.l.flatMap msgC)] := st.push hp hf hg2
        have st : St X w4 [(some g_t, Cl [.slice A_t_c t.c.length c_t_c, .slice A_t_l t.l.length c_t_l, .int .i64 t.count] 118), (blkOf A_t_c, Cl (t.c.flatMap (fun x => [Value.int .i64 x]) ++ sp_t_c) 3), (some g1, Cl [.int .i64 (((rat_m t i).1).f), .int .i64 (((rat_m t i).1).t), sv (((rat_m t i).1).s)] 46), (blkOf (some ⟨g2, 0, none⟩), Cl (([] : List MsgV).flatMap msgC ++ []) 46)] [kS A_t_l t.l.length c_t_l 3 (t.l.flatMap msgC)] := st
        have hg2 := Nat.le_trans hF.size hg2
        have hF := hF.step0 hf
        have hnew1 : ∀ g, blkOf (some ⟨g2, 0, none⟩) = some g → g ∈ (keys [(some g_t, Cl [.slice A_t_c t.c.length c_t_c, .slice A_t_l t.l.length c_t_l, .int .i64 t.count] 118), (blkOf A_t_c, Cl (t.c.flatMap (fun x => [Value.int .i64 x]) ++ sp_t_c) 3)]) ∨ w.heap.size ≤ g := fun g hg => by simp [blkOf] at hg; subst hg; exact .inr hg2
        refine ⟨(st.picks [0, 1, 2] (by decide)).takeK 1, ?_⟩
        refine Pf_a2 (i := 6) (j := 8) (by kernel_rfl) rfl (wtd0 rfl) rfl (wtd0 rfl) ?_ ?_
        · refine a_appM (i := 3) (xs := ([] : List MsgV)) (ys := t.l) (enc := msgC) rfl rfl rfl rfl rfl rfl Ty.es_116 Ty.zc_46 rfl Ty.by_46 (by decide) (fun _ => rfl) how1 st.hp rfl (st.k (i := 0) rfl).rd.src (fun h => by have := (st.k (i := 0) rfl).rd; exact rd_none this h (st.k (i := 0) rfl).len (by decide)) (by intro x v hv; simp only [msgC, List.mem_cons, List.not_mem_nil, or_false] at hv; rcases hv with rfl | rfl | rfl <;> rfl) (by first | (unfold maxLen; omega) | (simp [maxLen]; omega)) (by first | (unfold maxLen; omega) | (simp [maxLen]; omega)) (fun Aa1 ca1 sp1 w5 how2 (hp : Hp w5 [(_, Cl [_, _, _] _), _, (_, Cl [_, _, _] _), _]) hf hnw1 => ?_)
          have st : St X w5 [(_, Cl [_, _, _] _), _, (_, Cl [_, _, _] _), _] [kS A_t_l t.l.length c_t_l 3 (t.l.flatMap msgC)] := st.setAny (i := 3) rfl hp hf hnw1
          have st : St X w5 [(some g_t, Cl [.slice A_t_c t.c.length c_t_c, .slice A_t_l t.l.length c_t_l, .int .i64 t.count] 118), (blkOf A_t_c, Cl (t.c.flatMap (fun x => [Value.int .i64 x]) ++ sp_t_c) 3), (some g1, Cl [.int .i64 (((rat_m t i).1).f), .int .i64 (((rat_m t i).1).t), sv (((rat_m t i).1).s)] 46), (blkOf Aa1, Cl ((([] : List MsgV) ++ t.l).flatMap msgC ++ sp1) 46)] [kS A_t_l t.l.length c_t_l 3 (t.l.flatMap msgC)] := st
          have hnew2 : ∀ g, blkOf Aa1 = some g → g ∈ (keys [(some g_t, Cl [.slice A_t_c t.c.length c_t_c, .slice A_t_l t.l.length c_t_l, .int .i64 t.count] 118), (blkOf A_t_c, Cl (t.c.flatMap (fun x => [Value.int .i64 x]) ++ sp_t_c) 3)]) ∨ w.heap.size ≤ g := fun g hg => (hnw1 g hg).elim (hnew1 g) (fun h => .inr (Nat.le_trans hF.size h))
          have hF := hF.step hf (fun y hy => hnew1 y (by simpa using hy))
          refine ⟨(st.picks [0, 1, 2] (by decide)).takeK 1, ?_⟩
          refine Pf_a (i := 8) (by kernel_rfl) rfl (wtd0 rfl) ?_
          refine a_bsls (us := [.int .i64 (((rat_m t i).1).f), .int .i64 (((rat_m t i).1).t), sv (((rat_m t i).1).s)]) rfl rfl rfl rfl Ty.es_116 Ty.zc_46 rfl (by decide) st.hp (fun g3 w6 (hp : Hp w6 [(_, Cl [_, _, _] _), _, (_, Cl [_, _, _] _), _, _]) hf hg3 => ?_)
          have how3 : Ow (some ⟨g3, 0, none⟩) [(rat_m t i).1].length 1 3 ([(rat_m t i).1].flatMap msgC) [] := ⟨rfl, .inr ⟨g3, rfl, rfl, Nat.le_refl _, by unfold maxLen; decide⟩⟩
          have st : St X w6 [(_, Cl [_, _, _] _), _, (_, Cl [_, _, _] _), _, _] [kS A_t_l t.l.length c_t_l 3 (t.l.flatMap msgC)] := st.push hp hf hg3
          have st : St X w6 [(some g_t, Cl [.slice A_t_c t.c.length c_t_c, .slice A_t_l t.l.length c_t_l, .int .i64 t.count] 118), (blkOf A_t_c, Cl (t.c.flatMap (fun x => [Value.int .i64 x]) ++ sp_t_c) 3), (some g1, Cl [.int .i64 (((rat_m t i).1).f), .int .i64 (((rat_m t i).1).t), sv (((rat_m t i).1).s)] 46), (blkOf Aa1, Cl ((([] : List MsgV) ++ t.l).flatMap msgC ++ sp1) 46), (blkOf (some ⟨g3, 0, none⟩), Cl ([(rat_m t i).1].flatMap msgC ++ []) 46)] [kS A_t_l t.l.length c_t_l 3 (t.l.flatMap msgC)] := st
          have hg3 := Nat.le_trans hF.size hg3
          have hF := hF.step0 hf
          have hnew3 : ∀ g, blkOf (some ⟨g3, 0, none⟩) = some g → g ∈ (keys [(some g_t, Cl [.slice A_t_c t.c.length c_t_c, .slice A_t_l t.l.length c_t_l, .int .i64 t.count] 118), (blkOf A_t_c, Cl (t.c.flatMap (fun x => [Value.int .i64 x]) ++ sp_t_c) 3)]) ∨ w.heap.size ≤ g := fun g hg => by simp [blkOf] at hg; subst hg; exact .inr hg3
          refine ⟨(st.picks [0, 1, 2] (by decide)).takeK 1, ?_⟩
          refine Pf_a (i := 9) (by kernel_rfl) rfl (wtd0 rfl) ?_
          refine a_appM (i := 3) (xs := ([] : List MsgV) ++ t.l) (ys := [(rat_m t i).1]) (enc := msgC) rfl rfl rfl rfl rfl rfl Ty.es_116 Ty.zc_46 rfl Ty.by_46 (by decide) (fun _ => rfl) how2 st.hp rfl (own_src (i := 4) st.hp rfl how3) (own_none how3) (by intro x v hv; simp only [msgC, List.mem_cons, List.not_mem_nil, or_false] at hv; rcases hv with rfl | rfl | rfl <;> rfl) (by first | (unfold maxLen; omega) | (simp [maxLen]; omega)) (by first | (unfold maxLen; omega) | (simp [maxLen]; omega)) (fun Aa2 ca2 sp2 w7 how4 (hp : Hp w7 [(_, Cl [_, _, _] _), _, (_, Cl [_, _, _] _), _, _]) hf hnw2 => ?_)
          have st : St X w7 [(_, Cl [_, _, _] _), _, (_, Cl [_, _, _] _), _, _] [kS A_t_l t.l.length c_t_l 3 (t.l.flatMap msgC)] := st.setAny (i := 3) rfl hp hf hnw2
          have st : St X w7 [(some g_t, Cl [.slice A_t_c t.c.length c_t_c, .slice A_t_l t.l.length c_t_l, .int .i64 t.count] 118), (blkOf A_t_c, Cl (t.c.flatMap (fun x => [Value.int .i64 x]) ++ sp_t_c) 3), (some g1, Cl [.int .i64 (((rat_m t i).1).f), .int .i64 (((rat_m t i).1).t), sv (((rat_m t i).1).s)] 46), (blkOf Aa2, Cl (((([] : List MsgV) ++ t.l) ++ [(rat_m t i).1]).flatMap msgC ++ sp2) 46), (blkOf (some ⟨g3, 0, none⟩), Cl ([(rat_m t i).1].flatMap msgC ++ []) 46)] [kS A_t_l t.l.length c_t_l 3 (t.l.flatMap msgC)] := st
          have hnew4 : ∀ g, blkOf Aa2 = some g → g ∈ (keys [(some g_t, Cl [.slice A_t_c t.c.length c_t_c, .slice A_t_l t.l.length c_t_l, .int .i64 t.count] 118), (blkOf A_t_c, Cl (t.c.flatMap (fun x => [Value.int .i64 x]) ++ sp_t_c) 3)]) ∨ w.heap.size ≤ g := fun g hg => (hnw2 g hg).elim (hnew2 g) (fun h => .inr (Nat.le_trans hF.size h))
          have hF := hF.step hf (fun y hy => hnew2 y (by simpa using hy))
          refine ⟨(st.picks [0, 1, 2] (by decide)).takeK 1, ?_⟩
          refine Pf_y (i := 10) rfl (by kernel_rfl) (wtd0 rfl) rfl rfl (y_nil rfl rfl) ?_
          refine Pf_y (i := 11) rfl (by kernel_rfl) (wtd0 rfl) rfl rfl (y_fld rfl rfl Ty.fo_118_1) ?_
          refine Pf_fin (by kernel_rfl) (by kernel_rfl) rfl (wtd0 rfl) ?_
          refine a_store (i := 0) rfl rfl rfl rfl rfl Ty.sz_116 rfl st.hp rfl (by simp) (fun w8 (hp : Hp w8 [(_, Cl [_, _, _] _), _, (_, Cl [_, _, _] _), _, _]) hf _ => ?_)
          have st : St X w8 [(_, Cl [_, _, _] _), _, (_, Cl [_, _, _] _), _, _] [kS A_t_l t.l.length c_t_l 3 (t.l.flatMap msgC)] := st.set (i := 0) rfl hp hf
          have hF := hF.step hf (by intro y hy; simp only [List.mem_cons, List.not_mem_nil, or_false] at hy; subst hy; first | (exact Or.inr (by omega)) | (exact Or.inl (kin0 _ _)) | (exact Or.inl (by simp)))
          refine id (Th_n (hK9 _ _ ?_))
          refine Wp_seq fun K10 hK10 => ?_
          refine Wp_region ?_
          refine Ls_y (wtd0 rfl) rfl rfl (y_assign rfl rfl) ?_
          refine Ls_nil (Th_n (hK10 _ _ ?_))
          refine Wp_ret (Fq_ret (Res1 rfl rfl) ?_)
          have st : St X w8 [(_, Cl [_, _, _] _), _, (_, Cl [_, _, _] _), _] [kS A_t_l t.l.length c_t_l 3 (t.l.flatMap msgC), kS Aa2 (((([] : List MsgV) ++ t.l) ++ [(rat_m t i).1]).length) ca2 3 (((([] : List MsgV) ++ t.l) ++ [(rat_m t i).1]).flatMap msgC)] := st.freeze (i := 3) [0, 1, 2, 4] (by decide) rfl how4 (by decide)
          have he3 : rdouble_m t i = (0, (⟨t.c, (([] : List MsgV) ++ t.l) ++ [(rat_m t i).1], t.count⟩ : NetM)) := by
            unfold rdouble_m
            all_goals rewrite [if_pos hc1]
            all_goals rewrite [if_neg hc2]
            all_goals rfl
          rewrite [he3]
          exact ⟨_, _, _, _, _, rfl, how_t_c, (st.picks [0, 1] (by decide)).pickK [1], hF, kc_s (.inl (by simp [keys])) (kc_b hnewA_t_c (kc_n))⟩
        · refine a_bsls (us := [.int .i64 (((rat_m t i).1).f), .int .i64 (((rat_m t i).1).t), sv (((rat_m t i).1).s)]) rfl rfl rfl rfl Ty.es_116 Ty.zc_46 rfl (by decide) st.hp (fun g4 w9 (hp : Hp w9 [(_, Cl [_, _, _] _), _, (_, Cl [_, _, _] _), _, _]) hf hg4 => ?_)
          have how5 : Ow (some ⟨g4, 0, none⟩) [(rat_m t i).1].length 1 3 ([(rat_m t i).1].flatMap msgC) [] := ⟨rfl, .inr ⟨g4, rfl, rfl, Nat.le_refl _, by unfold maxLen; decide⟩⟩
          have st : St X w9 [(_, Cl [_, _, _] _), _, (_, Cl [_, _, _] _), _, _] [kS A_t_l t.l.length c_t_l 3 (t.l.flatMap msgC)] := st.push hp hf hg4
          have st : St X w9 [(some g_t, Cl [.slice A_t_c t.c.length c_t_c, .slice A_t_l t.l.length c_t_l, .int .i64 t.count] 118), (blkOf A_t_c, Cl (t.c.flatMap (fun x => [Value.int .i64 x]) ++ sp_t_c) 3), (some g1, Cl [.int .i64 (((rat_m t i).1).f), .int .i64 (((rat_m t i).1).t), sv (((rat_m t i).1).s)] 46), (blkOf (some ⟨g2, 0, none⟩), Cl (([] : List MsgV).flatMap msgC ++ []) 46), (blkOf (some ⟨g4, 0, none⟩), Cl ([(rat_m t i).1].flatMap msgC ++ []) 46)] [kS A_t_l t.l.length c_t_l 3 (t.l.flatMap msgC)] := st
          have hg4 := Nat.le_trans hF.size hg4
          have hF := hF.step0 hf
          have hnew5 : ∀ g, blkOf (some ⟨g4, 0, none⟩) = some g → g ∈ (keys [(some g_t, Cl [.slice A_t_c t.c.length c_t_c, .slice A_t_l t.l.length c_t_l, .int .i64 t.count] 118), (blkOf A_t_c, Cl (t.c.flatMap (fun x => [Value.int .i64 x]) ++ sp_t_c) 3)]) ∨ w.heap.size ≤ g := fun g hg => by simp [blkOf] at hg; subst hg; exact .inr hg4
          refine ⟨(st.picks [0, 1, 2] (by decide)).takeK 1, ?_⟩
          refine Pf_a (i := 6) (by kernel_rfl) rfl (wtd0 rfl) ?_
          refine a_appM (i := 3) (xs := ([] : List MsgV)) (ys := t.l) (enc := msgC) rfl rfl rfl rfl rfl rfl Ty.es_116 Ty.zc_46 rfl Ty.by_46 (by decide) (fun _ => rfl) how1 st.hp rfl (st.k (i := 0) rfl).rd.src (fun h => by have := (st.k (i := 0) rfl).rd; exact rd_none this h (st.k (i := 0) rfl).len (by decide)) (by intro x v hv; simp only [msgC, List.mem_cons, List.not_mem_nil, or_false] at hv; rcases hv with rfl | rfl | rfl <;> rfl) (by first | (unfold maxLen; omega) | (simp [maxLen]; omega)) (by first | (unfold maxLen; omega) | (simp [maxLen]; omega)) (fun Aa3 ca3 sp3 w10 how6 (hp : Hp w10 [(_, Cl [_, _, _] _), _, (_, Cl [_, _, _] _), _, _]) hf hnw3 => ?_)
          have st : St X w10 [(_, Cl [_, _, _] _), _, (_, Cl [_, _, _] _), _, _] [kS A_t_l t.l.length c_t_l 3 (t.l.flatMap msgC)] := st.setAny (i := 3) rfl hp hf hnw3
          have st : St X w10 [(some g_t, Cl [.slice A_t_c t.c.length c_t_c, .slice A_t_l t.l.length c_t_l, .int .i64 t.count] 118), (blkOf A_t_c, Cl (t.c.flatMap (fun x => [Value.int .i64 x]) ++ sp_t_c) 3), (some g1, Cl [.int .i64 (((rat_m t i).1).f), .int .i64 (((rat_m t i).1).t), sv (((rat_m t i).1).s)] 46), (blkOf Aa3, Cl ((([] : List MsgV) ++ t.l).flatMap msgC ++ sp3) 46), (blkOf (some ⟨g4, 0, none⟩), Cl ([(rat_m t i).1].flatMap msgC ++ []) 46)] [kS A_t_l t.l.length c_t_l 3 (t.l.flatMap msgC)] := st
          have hnew6 : ∀ g, blkOf Aa3 = some g → g ∈ (keys [(some g_t, Cl [.slice A_t_c t.c.length c_t_c, .slice A_t_l t.l.length c_t_l, .int .i64 t.count] 118), (blkOf A_t_c, Cl (t.c.flatMap (fun x => [Value.int .i64 x]) ++ sp_t_c) 3)]) ∨ w.heap.size ≤ g := fun g hg => (hnw3 g hg).elim (hnew1 g) (fun h => .inr (Nat.le_trans hF.size h))
          have hF := hF.step hf (fun y hy => hnew1 y (by simpa using hy))
          refine ⟨(st.picks [0, 1, 2] (by decide)).takeK 1, ?_⟩
          refine Pf_a (i := 9) (by kernel_rfl) rfl (wtd0 rfl) ?_
          refine a_appM (i := 3) (xs := ([] : List MsgV) ++ t.l) (ys := [(rat_m t i).1]) (enc := msgC) rfl rfl rfl rfl rfl rfl Ty.es_116 Ty.zc_46 rfl Ty.by_46 (by decide) (fun _ => rfl) how6 st.hp rfl (own_src (i := 4) st.hp rfl how5) (own_none how5) (by intro x v hv; simp only [msgC, List.mem_cons, List.not_mem_nil, or_false] at hv; rcases hv with rfl | rfl | rfl <;> rfl) (by first | (unfold maxLen; omega) | (simp [maxLen]; omega)) (by first | (unfold maxLen; omega) | (simp [maxLen]; omega)) (fun Aa4 ca4 sp4 w11 how7 (hp : Hp w11 [(_, Cl [_, _, _] _), _, (_, Cl [_, _, _] _), _, _]) hf hnw4 => ?_)
          have st : St X w11 [(_, Cl [_, _, _] _), _, (_, Cl [_, _, _] _), _, _] [kS A_t_l t.l.length c_t_l 3 (t.l.flatMap msgC)] := st.setAny (i := 3) rfl hp hf hnw4
          have st : St X w11 [(some g_t, Cl [.slice A_t_c t.c.length c_t_c, .slice A_t_l t.l.length c_t_l, .int .i64 t.count] 118), (blkOf A_t_c, Cl (t.c.flatMap (fun x => [Value.int .i64 x]) ++ sp_t_c) 3), (some g1, Cl [.int .i64 (((rat_m t i).1).f), .int .i64 (((rat_m t i).1).t), sv (((rat_m t i).1).s)] 46), (blkOf Aa4, Cl (((([] : List MsgV) ++ t.l) ++ [(rat_m t i).1]).flatMap msgC ++ sp4) 46), (blkOf (some ⟨g4, 0, none⟩), Cl ([(rat_m t i).1].flatMap msgC ++ []) 46)] [kS A_t_l t.l.length c_t_l 3 (t.l.flatMap msgC)] := st
          have hnew7 : ∀ g, blkOf Aa4 = some g → g ∈ (keys [(some g_t, Cl [.slice A_t_c t.c.length c_t_c, .slice A_t_l t.l.length c_t_l, .int .i64 t.count] 118), (blkOf A_t_c, Cl (t.c.flatMap (fun x => [Value.int .i64 x]) ++ sp_t_c) 3)]) ∨ w.heap.size ≤ g := fun g hg => (hnw4 g hg).elim (hnew6 g) (fun h => .inr (Nat.le_trans hF.size h))
          have hF := hF.step hf (fun y hy => hnew6 y (by simpa using hy))
          refine ⟨(st.picks [0, 1, 2] (by decide)).takeK 1, ?_⟩
          refine Pf_y (i := 10) rfl (by kernel_rfl) (wtd0 rfl) rfl rfl (y_nil rfl rfl) ?_
          refine Pf_y (i := 11) rfl (by kernel_rfl) (wtd0 rfl) rfl rfl (y_fld rfl rfl Ty.fo_118_1) ?_
          refine Pf_fin (by kernel_rfl) (by kernel_rfl) rfl (wtd0 rfl) ?_
          refine a_store (i := 0) rfl rfl rfl rfl rfl Ty.sz_116 rfl st.hp rfl (by simp) (fun w12 (hp : Hp w12 [(_, Cl [_, _, _] _), _, (_, Cl [_, _, _] _), _, _]) hf _ => ?_)
          have st : St X w12 [(_, Cl [_, _, _] _), _, (_, Cl [_, _, _] _), _, _] [kS A_t_l t.l.length c_t_l 3 (t.l.flatMap msgC)] := st.set (i := 0) rfl hp hf
          have hF := hF.step hf (by intro y hy; simp only [List.mem_cons, List.not_mem_nil, or_false] at hy; subst hy; first | (exact Or.inr (by omega)) | (exact Or.inl (kin0 _ _)) | (exact Or.inl (by simp)))
          refine id (Th_n (hK9 _ _ ?_))
          refine Wp_seq fun K11 hK11 => ?_
          refine Wp_region ?_
          refine Ls_y (wtd0 rfl) rfl rfl (y_assign rfl rfl) ?_
          refine Ls_nil (Th_n (hK11 _ _ ?_))
          refine Wp_ret (Fq_ret (Res1 rfl rfl) ?_)
          have st : St X w12 [(_, Cl [_, _, _] _), _, (_, Cl [_, _, _] _), _] [kS A_t_l t.l.length c_t_l 3 (t.l.flatMap msgC), kS Aa4 (((([] : List MsgV) ++ t.l) ++ [(rat_m t i).1]).length) ca4 3 (((([] : List MsgV) ++ t.l) ++ [(rat_m t i).1]).flatMap msgC)] := st.freeze (i := 3) [0, 1, 2, 4] (by decide) rfl how7 (by decide)
          have he4 : rdouble_m t i = (0, (⟨t.c, (([] : List MsgV) ++ t.l) ++ [(rat_m t i).1], t.count⟩ : NetM)) := by
            unfold rdouble_m
            all_goals rewrite [if_pos hc1]
            all_goals rewrite [if_neg hc2]
            all_goals rfl
          rewrite [he4]
          exact ⟨_, _, _, _, _, rfl, how_t_c, (st.picks [0, 1] (by decide)).pickK [1], hF, kc_s (.inl (by simp [keys])) (kc_b hnewA_t_c (kc_n))⟩
      · refine a_bsls (us := [.int .i64 (((rat_m t i).1).f), .int .i64 (((rat_m t i).1).t), sv (((rat_m t i).1).s)]) rfl rfl rfl rfl Ty.es_116 Ty.zc_46 rfl (by decide) st.hp (fun g5 w13 (hp : Hp w13 [(_, Cl [_, _, _] _), _, (_, Cl [_, _, _] _), _]) hf hg5 => ?_)
        have how8 : Ow (some ⟨g5, 0, none⟩) [(rat_m t i).1].length 1 3 ([(rat_m t i).1].flatMap msgC) [] := ⟨rfl, .inr ⟨g5, rfl, rfl, Nat.le_refl _, by unfold maxLen; decide⟩⟩
        have st : St X w13 [(_, Cl [_, _, _] _), _, (_, Cl [_, _, _] _), _] [kS A_t_l t.l.length c_t_l 3 (t.l.flatMap msgC)] := st.push hp hf hg5
        have st : St X w13 [(some g_t, Cl [.slice A_t_c t.c.length c_t_c, .slice A_t_l t.l.length c_t_l, .int .i64 t.count] 118), (blkOf A_t_c, Cl (t.c.flatMap (fun x => [Value.int .i64 x]) ++ sp_t_c) 3), (some g1, Cl [.int .i64 (((rat_m t i).1).f), .int .i64 (((rat_m t i).1).t), sv (((rat_m t i).1).s)] 46), (blkOf (some ⟨g5, 0, none⟩), Cl ([(rat_m t i).1].flatMap msgC ++ []) 46)] [kS A_t_l t.l.length c_t_l 3 (t.l.flatMap msgC)] := st
        have hg5 := Nat.le_trans hF.size hg5
        have hF := hF.step0 hf
        have hnew8 : ∀ g, blkOf (some ⟨g5, 0, none⟩) = some g → g ∈ (keys [(some g_t, Cl [.slice A_t_c t.c.length c_t_c, .slice A_t_l t.l.length c_t_l, .int .i64 t.count] 118), (blkOf A_t_c, Cl (t.c.flatMap (fun x => [Value.int .i64 x]) ++ sp_t_c) 3)]) ∨ w.heap.size ≤ g := fun g hg => by simp [blkOf] at hg; subst hg; exact .inr hg5
        refine ⟨(st.picks [0, 1, 2] (by decide)).takeK 1, ?_⟩
        refine Pf_a (i := 1) (by kernel_rfl) rfl (wtd0 rfl) ?_
        refine a_bsl0 rfl rfl rfl Ty.es_116 Ty.zc_46 st.hp (fun g6 w14 (hp : Hp w14 [(_, Cl [_, _, _] _), _, (_, Cl [_, _, _] _), _, _]) hf hg6 => ?_)
        have how9 : Ow (some ⟨g6, 0, none⟩) ([] : List MsgV).length 0 3 (([] : List MsgV).flatMap msgC) [] := ⟨rfl, .inr ⟨g6, rfl, rfl, Nat.le_refl _, by unfold maxLen; decide⟩⟩
        have st : St X w14 [(_, Cl [_, _, _] _), _, (_, Cl [_, _, _] _), _, _] [kS A_t_l t.l.length c_t_l 3 (t.l.flatMap msgC)] := st.push hp hf hg6
        have st : St X w14 [(some g_t, Cl [.slice A_t_c t.c.length c_t_c, .slice A_t_l t.l.length c_t_l, .int .i64 t.count] 118), (blkOf A_t_c, Cl (t.c.flatMap (fun x => [Value.int .i64 x]) ++ sp_t_c) 3), (some g1, Cl [.int .i64 (((rat_m t i).1).f), .int .i64 (((rat_m t i).1).t), sv (((rat_m t i).1).s)] 46), (blkOf (some ⟨g5, 0, none⟩), Cl ([(rat_m t i).1].flatMap msgC ++ []) 46), (blkOf (some ⟨g6, 0, none⟩), Cl (([] : List MsgV).flatMap msgC ++ []) 46)] [kS A_t_l t.l.length c_t_l 3 (t.l.flatMap msgC)] := st
        have hg6 := Nat.le_trans hF.size hg6
        have hF := hF.step0 hf
        have hnew9 : ∀ g, blkOf (some ⟨g6, 0, none⟩) = some g → g ∈ (keys [(some g_t, Cl [.slice A_t_c t.c.length c_t_c, .slice A_t_l t.l.length c_t_l, .int .i64 t.count] 118), (blkOf A_t_c, Cl (t.c.flatMap (fun x => [Value.int .i64 x]) ++ sp_t_c) 3)]) ∨ w.heap.size ≤ g := fun g hg => by simp [blkOf] at hg; subst hg; exact .inr hg6
        refine ⟨(st.picks [0, 1, 2] (by decide)).takeK 1, ?_⟩
        refine Pf_a (i := 6) (by kernel_rfl) rfl (wtd0 rfl) ?_
        refine a_appM (i := 4) (xs := ([] : List MsgV)) (ys := t.l) (enc := msgC) rfl rfl rfl rfl rfl rfl Ty.es_116 Ty.zc_46 rfl Ty.by_46 (by decide) (fun _ => rfl) how9 st.hp rfl (st.k (i := 0) rfl).rd.src (fun h => by have := (st.k (i := 0) rfl).rd; exact rd_none this h (st.k (i := 0) rfl).len (by decide)) (by intro x v hv; simp only [msgC, List.mem_cons, List.not_mem_nil, or_false] at hv; rcases hv with rfl | rfl | rfl <;> rfl) (by first | (unfold maxLen; omega) | (simp [maxLen]; omega)) (by first | (unfold maxLen; omega) | (simp [maxLen]; omega)) (fun Aa5 ca5 sp5 w15 how10 (hp : Hp w15 [(_, Cl [_, _, _] _), _, (_, Cl [_, _, _] _), _, _]) hf hnw5 => ?_)
        have st : St X w15 [(_, Cl [_, _, _] _), _, (_, Cl [_, _, _] _), _, _] [kS A_t_l t.l.length c_t_l 3 (t.l.flatMap msgC)] := st.setAny (i := 4) rfl hp hf hnw5
        have st : St X w15 [(some g_t, Cl [.slice A_t_c t.c.length c_t_c, .slice A_t_l t.l.length c_t_l, .int .i64 t.count] 118), (blkOf A_t_c, Cl (t.c.flatMap (fun x => [Value.int .i64 x]) ++ sp_t_c) 3), (some g1, Cl [.int .i64 (((rat_m t i).1).f), .int .i64 (((rat_m t i).1).t), sv (((rat_m t i).1).s)] 46), (blkOf (some ⟨g5, 0, none⟩), Cl ([(rat_m t i).1].flatMap msgC ++ []) 46), (blkOf Aa5, Cl ((([] : List MsgV) ++ t.l).flatMap msgC ++ sp5) 46)] [kS A_t_l t.l.length c_t_l 3 (t.l.flatMap msgC)] := st
        have hnew10 : ∀ g, blkOf Aa5 = some g → g ∈ (keys [(some g_t, Cl [.slice A_t_c t.c.length c_t_c, .slice A_t_l t.l.length c_t_l, .int .i64 t.count] 118), (blkOf A_t_c, Cl (t.c.flatMap (fun x => [Value.int .i64 x]) ++ sp_t_c) 3)]) ∨ w.heap.size ≤ g := fun g hg => (hnw5 g hg).elim (hnew9 g) (fun h => .inr (Nat.le_trans hF.size h))
        have hF := hF.step hf (fun y hy => hnew9 y (by simpa using hy))
        refine ⟨(st.picks [0, 1, 2] (by decide)).takeK 1, ?_⟩
        refine Pf_a (i := 9) (by kernel_rfl) rfl (wtd0 rfl) ?_
        refine a_appM (i := 4) (xs := ([] : List MsgV) ++ t.l) (ys := [(rat_m t i).1]) (enc := msgC) rfl rfl rfl rfl rfl rfl Ty.es_116 Ty.zc_46 rfl Ty.by_46 (by decide) (fun _ => rfl) how10 st.hp rfl (own_src (i := 3) st.hp rfl how8) (own_none how8) (by intro x v hv; simp only [msgC, List.mem_cons, List.not_mem_nil, or_false] at hv; rcases hv with rfl | rfl | rfl <;> rfl) (by first | (unfold maxLen; omega) | (simp [maxLen]; omega)) (by first | (unfold maxLen; omega) | (simp [maxLen]; omega)) (fun Aa6 ca6 sp6 w16 how11 (hp : Hp w16 [(_, Cl [_, _, _] _), _, (_, Cl [_, _, _] _), _, _]) hf hnw6 => ?_)
        have st : St X w16 [(_, Cl [_, _, _] _), _, (_, Cl [_, _, _] _), _, _] [kS A_t_l t.l.length c_t_l 3 (t.l.flatMap msgC)] := st.setAny (i := 4) rfl hp hf hnw6
        have st : St X w16 [(some g_t, Cl [.slice A_t_c t.c.length c_t_c, .slice A_t_l t.l.length c_t_l, .int .i64 t.count] 118), (blkOf A_t_c, Cl (t.c.flatMap (fun x => [Value.int .i64 x]) ++ sp_t_c) 3), (some g1, Cl [.int .i64 (((rat_m t i).1).f), .int .i64 (((rat_m t i).1).t), sv (((rat_m t i).1).s)] 46), (blkOf (some ⟨g5, 0, none⟩), Cl ([(rat_m t i).1].flatMap msgC ++ []) 46), (blkOf Aa6, Cl (((([] : List MsgV) ++ t.l) ++ [(rat_m t i).1]).flatMap msgC ++ sp6) 46)] [kS A_t_l t.l.length c_t_l 3 (t.l.flatMap msgC)] := st
        have hnew11 : ∀ g, blkOf Aa6 = some g → g ∈ (keys [(some g_t, Cl [.slice A_t_c t.c.length c_t_c, .slice A_t_l t.l.length c_t_l, .int .i64 t.count] 118), (blkOf A_t_c, Cl (t.c.flatMap (fun x => [Value.int .i64 x]) ++ sp_t_c) 3)]) ∨ w.heap.size ≤ g := fun g hg => (hnw6 g hg).elim (hnew10 g) (fun h => .inr (Nat.le_trans hF.size h))
        have hF := hF.step hf (fun y hy => hnew10 y (by simpa using hy))
        refine ⟨(st.picks [0, 1, 2] (by decide)).takeK 1, ?_⟩
        refine Pf_y (i := 10) rfl (by kernel_rfl) (wtd0 rfl) rfl rfl (y_nil rfl rfl) ?_
        refine Pf_y (i := 11) rfl (by kernel_rfl) (wtd0 rfl) rfl rfl (y_fld rfl rfl Ty.fo_118_1) ?_
        refine Pf_fin (by kernel_rfl) (by kernel_rfl) rfl (wtd0 rfl) ?_
        refine a_store (i := 0) rfl rfl rfl rfl rfl Ty.sz_116 rfl st.hp rfl (by simp) (fun w17 (hp : Hp w17 [(_, Cl [_, _, _] _), _, (_, Cl [_, _, _] _), _, _]) hf _ => ?_)
        have st : St X w17 [(_, Cl [_, _, _] _), _, (_, Cl [_, _, _] _), _, _] [kS A_t_l t.l.length c_t_l 3 (t.l.flatMap msgC)] := st.set (i := 0) rfl hp hf
        have hF := hF.step hf (by intro y hy; simp only [List.mem_cons, List.not_mem_nil, or_false] at hy; subst hy; first | (exact Or.inr (by omega)) | (exact Or.inl (kin0 _ _)) | (exact Or.inl (by simp)))
        refine id (Th_n (hK9 _ _ ?_))
        refine Wp_seq fun K12 hK12 => ?_
        refine Wp_region ?_
        refine Ls_y (wtd0 rfl) rfl rfl (y_assign rfl rfl) ?_
        refine Ls_nil (Th_n (hK12 _ _ ?_))
        refine Wp_ret (Fq_ret (Res1 rfl rfl) ?_)
        have st : St X w17 [(_, Cl [_, _, _] _), _, (_, Cl [_, _, _] _), _] [kS A_t_l t.l.length c_t_l 3 (t.l.flatMap msgC), kS Aa6 (((([] : List MsgV) ++ t.l) ++ [(rat_m t i).1]).length) ca6 3 (((([] : List MsgV) ++ t.l) ++ [(rat_m t i).1]).flatMap msgC)] := st.freeze (i := 4) [0, 1, 2, 3] (by decide) rfl how11 (by decide)
        have he5 : rdouble_m t i = (0, (⟨t.c, (([] : List MsgV) ++ t.l) ++ [(rat_m t i).1], t.count⟩ : NetM)) := by
          unfold rdouble_m
          all_goals rewrite [if_pos hc1]
          all_goals rewrite [if_neg hc2]
          all_goals rfl
        rewrite [he5]
        exact ⟨_, _, _, _, _, rfl, how_t_c, (st.picks [0, 1] (by decide)).pickK [1], hF, kc_s (.inl (by simp [keys])) (kc_b hnewA_t_c (kc_n))⟩

def rpaint_m (t : NetM) (i : Int) (c : Int) : Int × NetM :=
  if (rnode_m t i) = true then
    if c < 0 then
      (2, t)
    else
      if 15 < c then
        (2, t)
      else
        (0, (⟨t.c.set i.toNat c, t.l, t.count⟩ : NetM))
  else
    (2, t)

set_option maxRecDepth 20000 in
theorem rpaint_ok (X : List Nat) (w : World) (g_t : Nat) (t : NetM) (A_t_c : Option Addr) (c_t_c : Nat) (sp_t_c : List Value) (A_t_l : Option Addr) (c_t_l : Nat) (i : Int) (c : Int) (hs : St X w [(some g_t, Cl [.slice A_t_c t.c.length c_t_c, .slice A_t_l t.l.length c_t_l, .int .i64 t.count] 118), (blkOf A_t_c, Cl (t.c.flatMap (fun x => [Value.int .i64 x]) ++ sp_t_c) 3)] [kS A_t_l t.l.length c_t_l 3 (t.l.flatMap msgC)]) (how_t_c : Ow A_t_c t.c.length c_t_c 1 (t.c.flatMap (fun x => [Value.int .i64 x])) sp_t_c) :
    Fn Try.prog 29 [.pointer (some ⟨g_t, 0, none⟩), .int .i64 i, .int .i64 c] w fun v w' => ∃ (Ac' : Option Addr) (cc' : Nat) (spc' : List Value) (Al' : Option Addr) (cl' : Nat), v = .int .i64 ((rpaint_m t i c).1) ∧ Ow Ac' ((rpaint_m t i c).2).c.length cc' 1 (((rpaint_m t i c).2).c.flatMap (fun x => [Value.int .i64 x])) spc' ∧ St X w' [(some g_t, Cl [.slice Ac' ((rpaint_m t i c).2).c.length cc', .slice Al' ((rpaint_m t i c).2).l.length cl', .int .i64 (((rpaint_m t i c).2).count)] 118), (blkOf Ac', Cl (((rpaint_m t i c).2).c.flatMap (fun x => [Value.int .i64 x]) ++ spc') 3)] [kS Al' ((rpaint_m t i c).2).l.length cl' 3 (((rpaint_m t i c).2).l.flatMap msgC)] ∧ Fr (keys [(some g_t, Cl [.slice A_t_c t.c.length c_t_c, .slice A_t_l t.l.length c_t_l, .int .i64 t.count] 118), (blkOf A_t_c, Cl (t.c.flatMap (fun x => [Value.int .i64 x]) ++ sp_t_c) 3)]) w w' ∧ (∀ k ∈ keys [(some g_t, Cl [.slice Ac' ((rpaint_m t i c).2).c.length cc', .slice Al' ((rpaint_m t i c).2).l.length cl', .int .i64 (((rpaint_m t i c).2).count)] 118), (blkOf Ac', Cl (((rpaint_m t i c).2).c.flatMap (fun x => [Value.int .i64 x]) ++ spc') 3)], k ∈ (keys [(some g_t, Cl [.slice A_t_c t.c.length c_t_c, .slice A_t_l t.l.length c_t_l, .int .i64 t.count] 118), (blkOf A_t_c, Cl (t.c.flatMap (fun x => [Value.int .i64 x]) ++ sp_t_c) 3)]) ∨ w.heap.size ≤ k) := by
  refine Fn_of 26 Ty.en_29 Try.func29 rfl rfl rfl ?_
  dsimp only [argEnv]
  have hs0 := hs
  have st : St X w [(some g_t, Cl [.slice A_t_c t.c.length c_t_c, .slice A_t_l t.l.length c_t_l, .int .i64 t.count] 118), (blkOf A_t_c, Cl (t.c.flatMap (fun x => [Value.int .i64 x]) ++ sp_t_c) 3)] [kS A_t_l t.l.length c_t_l 3 (t.l.flatMap msgC)] := hs
  have hnewA_t_c : ∀ g, blkOf A_t_c = some g → g ∈ (keys [(some g_t, Cl [.slice A_t_c t.c.length c_t_c, .slice A_t_l t.l.length c_t_l, .int .i64 t.count] 118), (blkOf A_t_c, Cl (t.c.flatMap (fun x => [Value.int .i64 x]) ++ sp_t_c) 3)]) ∨ w.heap.size ≤ g := fun g hg => .inl (by simp [keys, hg])
  have hleA_t_c := Ow.le how_t_c
  have hF := Fr.refl (keys [(some g_t, Cl [.slice A_t_c t.c.length c_t_c, .slice A_t_l t.l.length c_t_l, .int .i64 t.count] 118), (blkOf A_t_c, Cl (t.c.flatMap (fun x => [Value.int .i64 x]) ++ sp_t_c) 3)]) w
  have hleA_t_l := (st.k (i := 0) rfl).le
  refine Wp_seq fun K1 hK1 => ?_
  refine Wp_region ?_
  refine Ls_y (wtd0 rfl) rfl rfl (y_assign rfl rfl) ?_
  refine Ls_nil (Th_n (hK1 _ _ ?_))
  refine Wp_seq fun K2 hK2 => ?_
  refine Wp_seq fun K3 hK3 => ?_
  refine Wp_region ?_
  refine Ls_y (wtd0 rfl) rfl rfl (y_move rfl rfl) ?_
  refine Ls_y (wtd0 rfl) rfl rfl (y_move rfl rfl) ?_
  refine Ls_a (wtd0 rfl) ?_
  refine a_call rfl rfl rfl rfl (rnode_ok (keys (pickL (hOf st) []) ++ X) _ g_t t A_t_c c_t_c sp_t_c A_t_l c_t_l i (st.sub [] [0, 1] [0] (by decide)) how_t_c) (fun v w1 ⟨hv, hf⟩ => ?_)
  subst hv
  have st := st.keep0 hf
  have hF := hF.step0 hf
  have st : St X w1 [(some g_t, Cl [.slice A_t_c t.c.length c_t_c, .slice A_t_l t.l.length c_t_l, .int .i64 t.count] 118), (blkOf A_t_c, Cl (t.c.flatMap (fun x => [Value.int .i64 x]) ++ sp_t_c) 3)] [kS A_t_l t.l.length c_t_l 3 (t.l.flatMap msgC)] := st
  refine Ls_y (wtd0 rfl) rfl rfl (y_not rfl rfl) ?_
  refine Ls_y (wtd0 rfl) rfl rfl (y_move rfl rfl) ?_
  refine Ls_bool 11 rfl (fun hc1 => ?_) (fun hc1 => ?_)
  · have hc1 : ¬ ((rnode_m t i) = true) := by first | simpa using hc1 | (intro hh; rw [hh] at hc1; cases hc1)
    refine Ls_s (wtdF rfl rfl rfl) rfl rfl ?_
    refine Ls_s (wtdF rfl rfl rfl) rfl rfl ?_
    refine Ls_y (wtd0 rfl) rfl rfl (y_pick_t rfl rfl rfl) ?_
    refine Ls_y (wtd0 rfl) rfl rfl (y_move rfl rfl) ?_
    refine Ls_s (wtdF rfl rfl rfl) rfl rfl ?_
    refine Ls_s (wtdF rfl rfl rfl) rfl rfl ?_
    refine Ls_y (wtd0 rfl) rfl rfl (y_pick_t rfl rfl rfl) ?_
    refine Ls_nil (Th_n (hK3 _ _ ?_))
    refine Wp_cond_t rfl ?_
    refine Wp_seq fun K4 hK4 => ?_
    refine Wp_region ?_
    refine Ls_y (wtd0 rfl) rfl rfl (y_assign rfl rfl) ?_
    refine Ls_nil (Th_n (hK4 _ _ ?_))
    refine Wp_ret (Th_r (Fq_ret (Res1 rfl rfl) ?_))
    have he1 : rpaint_m t i c = (2, t) := by
      unfold rpaint_m
      all_goals rewrite [if_neg hc1]
      all_goals rfl
    rewrite [he1]
    exact ⟨_, _, _, _, _, rfl, how_t_c, (st.picks [0, 1] (by decide)).pickK [0], hF, kc_s (.inl (by simp [keys])) (kc_b hnewA_t_c (kc_n))⟩
  · have hc1 : (rnode_m t i) = true := by first | simpa using hc1 | (intro hh; rw [hh] at hc1; cases hc1)
    have khc1 := (rnode_iff _ _).1 hc1
    refine Ls_y (wtdT rfl rfl rfl) rfl rfl (y_move rfl rfl) ?_
    refine Ls_y (wtdT rfl rfl rfl) rfl rfl (y_lt rfl rfl rfl) ?_
    refine Ls_y (wtd0 rfl) rfl rfl (y_pick_f rfl rfl rfl) ?_
    refine Ls_y (wtd0 rfl) rfl rfl (y_move rfl rfl) ?_
    refine Ls_bool 15 rfl (fun hc2 => ?_) (fun hc2 => ?_)
    · have hc2 : c < 0 := by first | simpa using hc2 | (intro hh; rw [hh] at hc2; cases hc2)
      refine Ls_s (wtdF rfl rfl rfl) rfl rfl ?_
      refine Ls_s (wtdF rfl rfl rfl) rfl rfl ?_
      refine Ls_y (wtd0 rfl) rfl rfl (y_pick_t rfl rfl rfl) ?_
      refine Ls_nil (Th_n (hK3 _ _ ?_))
      refine Wp_cond_t rfl ?_
      refine Wp_seq fun K5 hK5 => ?_
      refine Wp_region ?_
      refine Ls_y (wtd0 rfl) rfl rfl (y_assign rfl rfl) ?_
      refine Ls_nil (Th_n (hK5 _ _ ?_))
      refine Wp_ret (Th_r (Fq_ret (Res1 rfl rfl) ?_))
      have he2 : rpaint_m t i c = (2, t) := by
        unfold rpaint_m
        all_goals rewrite [if_pos hc1]
        all_goals rewrite [if_pos hc2]
        all_goals rfl
      rewrite [he2]
      exact ⟨_, _, _, _, _, rfl, how_t_c, (st.picks [0, 1] (by decide)).pickK [0], hF, kc_s (.inl (by simp [keys])) (kc_b hnewA_t_c (kc_n))⟩
    · have hc2 : ¬ (c < 0) := by first | simpa using hc2 | (intro hh; rw [hh] at hc2; cases hc2)
      refine Ls_y (wtdT rfl rfl rfl) rfl rfl (y_move rfl rfl) ?_
      refine Ls_y (wtdT rfl rfl rfl) rfl rfl (y_gt rfl rfl rfl) ?_
      refine Ls_y (wtd0 rfl) rfl rfl (y_pick_f rfl rfl rfl) ?_
      refine Ls_nil (Th_n (hK3 _ _ ?_))
      refine Wp_cond rfl (fun hc3 => ?_) (fun hc3 => ?_)
      · have hc3 : 15 < c := by first | simpa using hc3 | (intro hh; rw [hh] at hc3; cases hc3)
        refine Wp_seq fun K6 hK6 => ?_
        refine Wp_region ?_
        refine Ls_y (wtd0 rfl) rfl rfl (y_assign rfl rfl) ?_
        refine Ls_nil (Th_n (hK6 _ _ ?_))
        refine Wp_ret (Th_r (Fq_ret (Res1 rfl rfl) ?_))
        have he3 : rpaint_m t i c = (2, t) := by
          unfold rpaint_m
          all_goals rewrite [if_pos hc1]
          all_goals rewrite [if_neg hc2]
          all_goals rewrite [if_pos hc3]
          all_goals rfl
        rewrite [he3]
        exact ⟨_, _, _, _, _, rfl, how_t_c, (st.picks [0, 1] (by decide)).pickK [0], hF, kc_s (.inl (by simp [keys])) (kc_b hnewA_t_c (kc_n))⟩
      · have hc3 : ¬ (15 < c) := by first | simpa using hc3 | (intro hh; rw [hh] at hc3; cases hc3)
        refine Wp_skip (Th_n (hK2 _ _ ?_))
        refine Wp_seq fun K7 hK7 => ?_
        refine Wp_region ?_
        refine Ls_y (wtd0 rfl) rfl rfl (y_move rfl rfl) ?_
        refine Ls_y (wtd0 rfl) rfl rfl (y_nil rfl rfl) ?_
        refine Ls_y (wtd0 rfl) rfl rfl (y_fld rfl rfl Ty.fo_118_0) ?_
        refine Ls_y (wtd0 rfl) rfl rfl (y_load (i := 0) rfl rfl Ty.pl_73 (fun _ e => e ▸ st.hp) rfl rfl) ?_
        refine Ls_y (wtd0 rfl) rfl rfl (y_move rfl rfl) ?_
        refine Ls_y (wtd0 rfl) rfl rfl (y_move rfl rfl) ?_
        obtain ⟨gi1, egi1⟩ := (how_t_c).some_ (by first | omega | (simp; done) | (simp; omega))
        subst egi1
        refine Ls_y (wtd0 rfl) rfl rfl (y_ixa (q := i) rfl rfl rfl Ty.es_73 (by first | omega | (simp; done) | (simp; omega)) (by first | omega | (simp; done) | (simp; omega))) ?_
        refine Ls_a (wtd0 rfl) ?_
        refine a_setrow (i := 1) (q := i) (u := c) rfl rfl rfl rfl rfl (fun _ => rfl) Ty.sz_3 (by intro v hv; simp only [List.mem_singleton] at hv; subst hv; rfl) how_t_c st.hp rfl (by first | omega | (simp; done) | (simp; omega)) (by first | omega | (simp; done) | (simp; omega)) (by decide) (fun w2 how1 (hp : Hp w2 [(_, Cl [_, _, _] _), _]) hf => ?_)
        have st : St X w2 [(_, Cl [_, _, _] _), _] [kS A_t_l t.l.length c_t_l 3 (t.l.flatMap msgC)] := st.set (i := 1) rfl hp hf
        have st : St X w2 [(some g_t, Cl [.slice (some ⟨gi1, 0, none⟩) t.c.length c_t_c, .slice A_t_l t.l.length c_t_l, .int .i64 t.count] 118), (blkOf (some ⟨gi1, 0, none⟩), Cl ((t.c.set i.toNat c).flatMap (fun x => [Value.int .i64 x]) ++ sp_t_c) 3)] [kS A_t_l t.l.length c_t_l 3 (t.l.flatMap msgC)] := st
        have hF := hF.step hf (fun y hy => hnewA_t_c y (by simp at hy; subst hy; rfl))
        have hlen_how1 : (t.c.set i.toNat c).length = t.c.length := by simp
        rewrite [hlen_how1] at how1
        refine Ls_nil (Th_n (hK7 _ _ ?_))
        refine Wp_seq fun K8 hK8 => ?_
        refine Wp_region ?_
        refine Ls_y (wtd0 rfl) rfl rfl (y_assign rfl rfl) ?_
        refine Ls_nil (Th_n (hK8 _ _ ?_))
        refine Wp_ret (Fq_ret (Res1 rfl rfl) ?_)
        have hfl : t.c.length = (t.c.set i.toNat c).length := by simp
        have how2 := how1
        rewrite [hfl] at how2
        have st : St X _ [(some g_t, Cl [.slice (some ⟨gi1, 0, none⟩) ((t.c.set i.toNat c).length) c_t_c, .slice A_t_l t.l.length c_t_l, .int .i64 t.count] 118), (blkOf (some ⟨gi1, 0, none⟩), Cl ((t.c.set i.toNat c).flatMap (fun x => [Value.int .i64 x]) ++ sp_t_c) 3)] [kS A_t_l t.l.length c_t_l 3 (t.l.flatMap msgC)] := st.conv (i := 0) (cs' := [.slice (some ⟨gi1, 0, none⟩) ((t.c.set i.toNat c).length) c_t_c, .slice A_t_l t.l.length c_t_l, .int .i64 t.count]) rfl (by simp)
        have he4 : rpaint_m t i c = (0, (⟨t.c.set i.toNat c, t.l, t.count⟩ : NetM)) := by
          unfold rpaint_m
          all_goals rewrite [if_pos hc1]
          all_goals rewrite [if_neg hc2]
          all_goals rewrite [if_neg hc3]
          all_goals rfl
        rewrite [he4]
        exact ⟨_, _, _, _, _, rfl, how2, (st.picks [0, 1] (by decide)).pickK [0], hF, kc_s (.inl (by simp [keys])) (kc_b hnewA_t_c (kc_n))⟩

def mnew_m (n : Int) : NetM × Int :=
  ((⟨List.replicate n.toNat 0, ([] : List MsgV), 0⟩ : NetM), 0)

set_option maxRecDepth 20000 in
theorem mnew_ok (X : List Nat) (w : World) (hX : Lo X w) (n : Int) (hn : 1 ≤ n ∧ n ≤ 32) :
    Fn Try.prog 18 [.int .i64 n] w fun v w' => ∃ (g_r0 : Nat) (Ac' : Option Addr) (cc' : Nat) (spc' : List Value) (Al' : Option Addr) (cl' : Nat), v = .tuple #[.pointer (some ⟨g_r0, 0, none⟩), .int .i64 ((mnew_m n).2)] ∧ Ow Ac' ((mnew_m n).1).c.length cc' 1 (((mnew_m n).1).c.flatMap (fun x => [Value.int .i64 x])) spc' ∧ St X w' [(some g_r0, Cl [.slice Ac' ((mnew_m n).1).c.length cc', .slice Al' ((mnew_m n).1).l.length cl', .int .i64 (((mnew_m n).1).count)] 118), (blkOf Ac', Cl (((mnew_m n).1).c.flatMap (fun x => [Value.int .i64 x]) ++ spc') 3)] [kS Al' ((mnew_m n).1).l.length cl' 3 (((mnew_m n).1).l.flatMap msgC)] ∧ Fr ([]) w w' ∧ (∀ k ∈ keys [(some g_r0, Cl [.slice Ac' ((mnew_m n).1).c.length cc', .slice Al' ((mnew_m n).1).l.length cl', .int .i64 (((mnew_m n).1).count)] 118), (blkOf Ac', Cl (((mnew_m n).1).c.flatMap (fun x => [Value.int .i64 x]) ++ spc') 3)], w.heap.size ≤ k) := by
  refine Fn_of 14 Ty.en_18 Try.func18 rfl rfl rfl ?_
  dsimp only [argEnv]
  have st : St X w [] [] := St.nil (X := X) (w := w) hX
  have hF := Fr.refl ([]) w
  refine Wp_seq fun K1 hK1 => ?_
  refine Wp_region ?_
  refine Ls_y (wtd0 rfl) rfl rfl (y_assign rfl rfl) ?_
  refine Ls_y (wtd0 rfl) rfl rfl (y_assign rfl rfl) ?_
  refine Ls_nil (Th_n (hK1 _ _ ?_))
  refine Wp_seq fun K2 hK2 => ?_
  refine Wp_seq fun K3 hK3 => ?_
  refine Wp_region ?_
  refine Ls_y (wtd0 rfl) rfl rfl (y_move rfl rfl) ?_
  refine Ls_y (wtd0 rfl) rfl rfl (y_lt rfl rfl rfl) ?_
  refine Ls_y (wtd0 rfl) rfl rfl (y_move rfl rfl) ?_
  refine Ls_bool 6 rfl (fun hc1 => absurd hc1 (by simp; omega)) (fun _ => ?_)
  refine Ls_y (wtdT rfl rfl rfl) rfl rfl (y_move rfl rfl) ?_
  refine Ls_y (wtdT rfl rfl rfl) rfl rfl (y_gt rfl rfl rfl) ?_
  refine Ls_y (wtd0 rfl) rfl rfl (y_pick_f rfl rfl rfl) ?_
  refine Ls_nil (Th_n (hK3 _ _ ?_))
  refine Wp_cond rfl (fun hc2 => absurd hc2 (by simp; omega)) (fun _ => ?_)
  refine Wp_skip (Th_n (hK2 _ _ ?_))
  refine Wp_seq fun K4 hK4 => ?_
  refine Wp_region ?_
  refine Ls_y (wtd0 rfl) rfl rfl (y_move rfl rfl) ?_
  refine Ls_a (wtd0 rfl) ?_
  refine a_mkM (q := n) (u := 0) (enc := (fun x => [Value.int .i64 x])) rfl rfl rfl rfl rfl Ty.es_73 Ty.zc_3 rfl Ty.by_3 rfl (fun _ => rfl) (by first | omega | (simp; done) | (simp; omega)) (by first | omega | (simp; done) | (simp; omega)) (by first | omega | (simp; done) | (simp; omega)) st.hp (fun g1 w1 how1 (hp : Hp w1 [_]) hf hg1 => ?_)
  have st : St X w1 [_] [] := st.push hp hf hg1
  have st : St X w1 [(blkOf (some ⟨g1, 0, none⟩), Cl ((List.replicate n.toNat 0).flatMap (fun x => [Value.int .i64 x]) ++ []) 3)] [] := st
  have hg1 := Nat.le_trans hF.size hg1
  have hF := hF.step0 hf
  have hnew1 : ∀ g, blkOf (some ⟨g1, 0, none⟩) = some g → g ∈ ([]) ∨ w.heap.size ≤ g := fun g hg => by simp [blkOf] at hg; subst hg; exact .inr hg1
  refine Ls_y (wtd0 rfl) rfl rfl (y_build (cells := [_, _, _]) rfl rfl Ty.zc_118 Ty.ps_118 rfl) ?_
  refine Ls_a (wtd0 rfl) ?_
  refine a_box rfl rfl rfl rfl st.hp (fun g2 w2 (hp : Hp w2 [_, (_, Cl [_, _, _] _)]) hf hg2 => ?_)
  have st : St X w2 [_, (_, Cl [_, _, _] _)] [] := st.push hp hf hg2
  have hg2 := Nat.le_trans hF.size hg2
  have hF := hF.step0 hf
  refine Ls_y (wtd0 rfl) rfl rfl (y_assign rfl rfl) ?_
  refine Ls_y (wtd0 rfl) rfl rfl (y_assign rfl rfl) ?_
  refine Ls_nil (Th_n (hK4 _ _ ?_))
  have st := st.addK (kS none 0 0 3 []) ⟨Rdx.nil, by simp, Nat.le_refl _, Nat.zero_le _⟩
  have st : St X w2 [_, (_, Cl [_, _, _] _)] [kS none ([] : List MsgV).length 0 3 (([] : List MsgV).flatMap msgC)] := st
  refine Wp_ret (Fq_ret (Res2 rfl rfl rfl) ?_)
  have he1 : mnew_m n = ((⟨List.replicate n.toNat 0, ([] : List MsgV), 0⟩ : NetM), 0) := by
    unfold mnew_m
    all_goals rfl
  rewrite [he1]
  exact ⟨_, _, _, _, _, _, rfl, how1, (st.picks [1, 0] (by decide)).pickK [0], hF, kc_s hg2 (kc_b (fun g hg => (hnew1 g hg).elim (fun h => by simp at h) id) (kc_n))⟩

end Go.Proofs.Ytikdpkhcegjmfaa

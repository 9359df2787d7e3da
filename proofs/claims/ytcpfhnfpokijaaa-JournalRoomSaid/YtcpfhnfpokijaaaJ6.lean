/- Walks printed by gen.py out of our own specifications: what the functions named below do. -/
import Derived.Test.YtcpfhnfpokijaaaJ5
set_option linter.unusedSimpArgs false
set_option linter.unusedVariables false
namespace Go.Proofs.Ytcpfhnfpokijaaa
open Go.RowKit


/-- What find holds between two cells. -/
structure Fs where
  l : List (List UInt8)
  text : List UInt8
  n : Nat
  gen : Int
  next : Nat
def fbad (s : Fs) (c : Cx) : Bool := decide (4 ≤ c.2.2.1) || ((bits .and .u8 c.2.2.1 1 != 0) != ((s.n : Int) == 0)) || ((s.n : Int) == 82) || (!(bits .and .u8 c.2.2.1 1 != 0) && (c.1 != s.gen))
def fnext (s : Fs) (c : Cx) : Fs := if bits .and .u8 c.2.2.1 2 ≠ 0 then ⟨s.l ++ [s.text ++ c.2.2.2], [], 0, c.1, c.2.1.toNat + 1⟩ else ⟨s.l, s.text ++ c.2.2.2, s.n + 1, c.1, s.next⟩
def findF : List Cx → Fs → Fs
  | [], s => s
  | c :: cs, s => if fbad s c = true then s else findF cs (fnext s c)
def findI (J : Jn) : Fs := ⟨[], [], 0, 0, J.head⟩
def findJ (D : Dk) (J : Jn) : Fs := findF (runL D J J.size 0 J.least) (findI J)
theorem findF_bad {cs : List Cx} {k : Nat} {c : Cx} {s : Fs} (h : cs[k]? = some c) (hb : fbad s c = true) : findF (cs.drop k) s = s := by
  obtain ⟨hk, rfl⟩ := List.getElem?_eq_some_iff.1 h
  rw [List.drop_eq_getElem_cons hk, findF, if_pos hb]
theorem findF_next {cs : List Cx} {k : Nat} {c : Cx} {s : Fs} (h : cs[k]? = some c) (hb : fbad s c = false) : findF (cs.drop k) s = findF (cs.drop (k + 1)) (fnext s c) := by
  obtain ⟨hk, rfl⟩ := List.getElem?_eq_some_iff.1 h
  rw [List.drop_eq_getElem_cons hk, findF, if_neg (by simp [hb])]
theorem runL_mem {D : Dk} {J : Jn} : ∀ (r i : Nat) (g : Int) (c : Cx), c ∈ runL D J r i g → ∃ k, k < i + r ∧ c.2.1 = ((J.head + k : Nat) : Int) ∧ ∃ at_, cellAt D at_ = some c
  | 0, _, _, _, h => by cases h
  | r + 1, i, g, c, h => by
    rw [runL] at h
    split at h
    · rename_i c2 hc2
      split at h
      · rename_i hq
        rcases List.mem_cons.1 h with rfl | h
        · exact ⟨i, by omega, hq.1, _, hc2⟩
        · obtain ⟨k, hk, h2⟩ := runL_mem r (i + 1) c2.1 c h
          exact ⟨k, by omega, h2⟩
      · cases h
    · cases h
theorem cellAt_len {D : Dk} {i : Int} {c : Cx} (h : cellAt D i = some c) : c.2.2.2.length ≤ 50 ∧ 0 ≤ c.1 ∧ c.1 < 65536 ∧ 0 ≤ c.2.2.1 ∧ c.2.2.1 < 256 := by
  unfold cellAt at h
  split at h
  · unfold unpackL unpackC at h
    split at h
    · rename_i b0 b1 b2 b3 b4 b5 b6 b7 r _
      simp only at h
      split at h
      · rename_i hc
        simp only [Option.some.injEq] at h
        subst h
        have h0 := b0.toNat_lt
        have h1 := b1.toNat_lt
        have h6 := b6.toNat_lt
        refine ⟨by simp only [List.length_take]; omega, by simp only; omega, by simp only; omega, by simp only; omega, by simp only; omega⟩
      · cases h
    · cases h
  · cases h
theorem runL_len {D : Dk} {J : Jn} : ∀ (r i : Nat) (g : Int), (runL D J r i g).length ≤ r
  | 0, _, _ => Nat.le_refl _
  | r + 1, i, g => by
    rw [runL]
    split
    · split
      · have := runL_len (D := D) (J := J) r (i + 1)
        simp only [List.length_cons]
        exact Nat.succ_le_succ (this _)
      · simp
    · simp
theorem x8_lt {n a b c d e f : Nat} {oa ob : Option Nat} (h1 : a < n) (h2 : b < n) (h3 : c < n) (h4 : d < n) (h5 : e < n) (h6 : f < n) (hA : ∀ g, oa = some g → g < n) (hB : ∀ g, ob = some g → g < n) : ∀ x ∈ [a, b, c, d, e, f] ++ oa.toList ++ ob.toList, x < n := fun x hx => by
  simp only [List.mem_append, List.mem_cons, List.not_mem_nil, or_false, Option.mem_toList, Option.mem_def] at hx
  rcases hx with ((rfl | rfl | rfl | rfl | rfl | rfl) | h) | h
  all_goals first | assumption | exact hA _ h | exact hB _ h
theorem x8_new {n a b c d e f : Nat} {oa ob : Option Nat} (h2 : n ≤ b) (h3 : n ≤ c) (h4 : n ≤ d) (h5 : n ≤ e) (h6 : n ≤ f) (hA : ∀ g, oa = some g → n ≤ g) (hB : ∀ g, ob = some g → n ≤ g) : ∀ x ∈ [a, b, c, d, e, f] ++ oa.toList ++ ob.toList, x ∈ [a] ∨ n ≤ x := fun x hx => by
  simp only [List.mem_append, List.mem_cons, List.not_mem_nil, or_false, Option.mem_toList, Option.mem_def] at hx ⊢
  rcases hx with ((rfl | rfl | rfl | rfl | rfl | rfl) | h) | h
  all_goals first | exact .inl rfl | exact .inr (by assumption) | exact .inr (hA _ h) | exact .inr (hB _ h)
theorem y_cvO [Dfs] {P : Program} {n : Nat} {env : Env} {w : World} {o : Oper} {H : Heap} {src dst e l c i : Nat} {x : Operand} {A : Option Addr} {r : List UInt8} {sp : List Value} (ho : o.op = .convert src dst x) (hx : env.ev x = some (.slice A l c)) (hs : P.underlying src = some (.slice e)) (he : P.underlying e = some (.int .u8)) (hd : P.underlying dst = some .string)
    (how : Ow A l c 1 (r.map bv) sp) (h : Hp w H) (hi : H[i]? = some (blkOf A, Cl (r.map bv ++ sp) e)) : Yld P n env (· = w) o (sv r) := by
  have hl : r.length = l := by simpa using how.1
  rcases how.2 with ⟨rfl, rfl, rfl, _⟩ | ⟨g, rfl, _⟩
  · have : r = [] := List.eq_nil_of_length_eq_zero hl
    subst this
    exact y_cvnil ho hx hs he hd
  · exact y_cvb ho hx hs he hd hl (by rintro _ rfl; exact rangeAt_pre (range_all h hi))

set_option maxRecDepth 20000 in
set_option maxHeartbeats 4000000 in
theorem jfind_ok (gj : Nat) (p : Dp) (D : Dk) (J : Jn) (w : World) (hp : Hp w (jH gj p D J)) (hD : DkOk D) (hJ : JnB J) :
    Fn Try.prog 26 [.pointer (some ⟨gj, 0, none⟩)] w fun v w' => (∃ A c sp, v = .slice A (findJ D J).l.length c ∧ Ow A (findJ D J).l.length c 1 ((findJ D J).l.map sv) sp ∧ Hp w' (jH gj p D { J with next := (findJ D J).next, lasts := (findJ D J).next } ++ [(blkOf A, Cl ((findJ D J).l.map sv ++ sp) 9)]) ∧ Fr [gj] w w' ∧ (∀ g, blkOf A = some g → w.heap.size ≤ g)) := by
  refine Fn_ofM 77 Ty.en_26 Try.func26 rfl rfl rfl ?_
  dsimp only [argEnv]
  have hp : Hp w [(_, Cl [_, _, _, _, _] _), _, _, (_, Cl [_, _, _, _, _, _, _, _, _] _)] := hp
  have hF := Fr.refl [gj] w
  refine Wf_seq ?_
  refine Wf_x (fun K1 hK1 => ?_)
  refine Wp_region ?_
  refine Ls_a (wtd0 rfl) ?_
  refine a_box1 rfl rfl rfl rfl rfl hp (fun g1 w1 (hp : Hp w1 [(_, Cl [_, _, _, _, _] _), _, _, (_, Cl [_, _, _, _, _, _, _, _, _] _), (_, Cl [_] _)]) hf hg1 => ?_)
  have hg1 := Nat.le_trans hF.size hg1
  have hF := hF.step0 hf
  refine Ls_y (wtd0 rfl) rfl rfl (y_assign rfl rfl) ?_
  refine Ls_nil (Th_n (hK1 _ _ ?_))
  refine Wf_seq ?_
  refine Wf_x (fun K2 hK2 => ?_)
  refine Wp_region ?_
  refine Ls_a (wtd0 rfl) ?_
  refine a_alloc rfl rfl rfl Ty.zc_22 hp (fun g2 w2 (hp : Hp w2 [(_, Cl [_, _, _, _, _] _), _, _, (_, Cl [_, _, _, _, _, _, _, _, _] _), (_, Cl [_] _), (_, Cl [_] _)]) hf hg2 => ?_)
  have hg2 := Nat.le_trans hF.size hg2
  have hF := hF.step0 hf
  refine Ls_nil (Th_n (hK2 _ _ ?_))
  refine Wf_seq ?_
  refine Wf_x (fun K3 hK3 => ?_)
  refine Wp_region ?_
  refine Ls_a (wtd0 rfl) ?_
  refine a_alloc rfl rfl rfl Ty.zc_45 hp (fun g3 w3 (hp : Hp w3 [(_, Cl [_, _, _, _, _] _), _, _, (_, Cl [_, _, _, _, _, _, _, _, _] _), (_, Cl [_] _), (_, Cl [_] _), (_, Cl [_] _)]) hf hg3 => ?_)
  have hg3 := Nat.le_trans hF.size hg3
  have hF := hF.step0 hf
  refine Ls_nil (Th_n (hK3 _ _ ?_))
  refine Wf_seq ?_
  refine Wf_x (fun K4 hK4 => ?_)
  refine Wp_region ?_
  refine Ls_a (wtd0 rfl) ?_
  refine a_alloc rfl rfl rfl Ty.zc_3 hp (fun g4 w4 (hp : Hp w4 [(_, Cl [_, _, _, _, _] _), _, _, (_, Cl [_, _, _, _, _, _, _, _, _] _), (_, Cl [_] _), (_, Cl [_] _), (_, Cl [_] _), (_, Cl [_] _)]) hf hg4 => ?_)
  have hg4 := Nat.le_trans hF.size hg4
  have hF := hF.step0 hf
  refine Ls_a (wtd0 rfl) ?_
  first
    | refine a_store (i := 0) rfl rfl rfl rfl rfl Ty.sz_3 rfl hp rfl (by first | decide | (simp; done) | (simp; omega)) (fun w5 (hp : Hp w5 [(_, Cl [_, _, _, _, _] _), _, _, (_, Cl [_, _, _, _, _, _, _, _, _] _), (_, Cl [_] _), (_, Cl [_] _), (_, Cl [_] _), (_, Cl [_] _)]) hf _ => ?_)
    | refine a_store (i := 1) rfl rfl rfl rfl rfl Ty.sz_3 rfl hp rfl (by first | decide | (simp; done) | (simp; omega)) (fun w5 (hp : Hp w5 [(_, Cl [_, _, _, _, _] _), _, _, (_, Cl [_, _, _, _, _, _, _, _, _] _), (_, Cl [_] _), (_, Cl [_] _), (_, Cl [_] _), (_, Cl [_] _)]) hf _ => ?_)
    | refine a_store (i := 2) rfl rfl rfl rfl rfl Ty.sz_3 rfl hp rfl (by first | decide | (simp; done) | (simp; omega)) (fun w5 (hp : Hp w5 [(_, Cl [_, _, _, _, _] _), _, _, (_, Cl [_, _, _, _, _, _, _, _, _] _), (_, Cl [_] _), (_, Cl [_] _), (_, Cl [_] _), (_, Cl [_] _)]) hf _ => ?_)
    | refine a_store (i := 3) rfl rfl rfl rfl rfl Ty.sz_3 rfl hp rfl (by first | decide | (simp; done) | (simp; omega)) (fun w5 (hp : Hp w5 [(_, Cl [_, _, _, _, _] _), _, _, (_, Cl [_, _, _, _, _, _, _, _, _] _), (_, Cl [_] _), (_, Cl [_] _), (_, Cl [_] _), (_, Cl [_] _)]) hf _ => ?_)
    | refine a_store (i := 4) rfl rfl rfl rfl rfl Ty.sz_3 rfl hp rfl (by first | decide | (simp; done) | (simp; omega)) (fun w5 (hp : Hp w5 [(_, Cl [_, _, _, _, _] _), _, _, (_, Cl [_, _, _, _, _, _, _, _, _] _), (_, Cl [_] _), (_, Cl [_] _), (_, Cl [_] _), (_, Cl [_] _)]) hf _ => ?_)
    | refine a_store (i := 5) rfl rfl rfl rfl rfl Ty.sz_3 rfl hp rfl (by first | decide | (simp; done) | (simp; omega)) (fun w5 (hp : Hp w5 [(_, Cl [_, _, _, _, _] _), _, _, (_, Cl [_, _, _, _, _, _, _, _, _] _), (_, Cl [_] _), (_, Cl [_] _), (_, Cl [_] _), (_, Cl [_] _)]) hf _ => ?_)
    | refine a_store (i := 6) rfl rfl rfl rfl rfl Ty.sz_3 rfl hp rfl (by first | decide | (simp; done) | (simp; omega)) (fun w5 (hp : Hp w5 [(_, Cl [_, _, _, _, _] _), _, _, (_, Cl [_, _, _, _, _, _, _, _, _] _), (_, Cl [_] _), (_, Cl [_] _), (_, Cl [_] _), (_, Cl [_] _)]) hf _ => ?_)
    | refine a_store (i := 7) rfl rfl rfl rfl rfl Ty.sz_3 rfl hp rfl (by first | decide | (simp; done) | (simp; omega)) (fun w5 (hp : Hp w5 [(_, Cl [_, _, _, _, _] _), _, _, (_, Cl [_, _, _, _, _, _, _, _, _] _), (_, Cl [_] _), (_, Cl [_] _), (_, Cl [_] _), (_, Cl [_] _)]) hf _ => ?_)
  have hF := hF.step hf (by intro y hy; simp only [List.mem_cons, List.not_mem_nil, or_false] at hy; subst hy; first | (exact Or.inr (by omega)) | (exact Or.inl (by simp)))
  refine Ls_nil (Th_n (hK4 _ _ ?_))
  refine Wf_seq ?_
  refine Wf_x (fun K5 hK5 => ?_)
  refine Wp_region ?_
  refine Ls_a (wtd0 rfl) ?_
  refine a_alloc rfl rfl rfl Ty.zc_33 hp (fun g6 w6 (hp : Hp w6 [(_, Cl [_, _, _, _, _] _), _, _, (_, Cl [_, _, _, _, _, _, _, _, _] _), (_, Cl [_] _), (_, Cl [_] _), (_, Cl [_] _), (_, Cl [_] _), (_, Cl [_] _)]) hf hg6 => ?_)
  have hg6 := Nat.le_trans hF.size hg6
  have hF := hF.step0 hf
  refine Ls_a (wtd0 rfl) ?_
  first
    | refine a_store (i := 0) rfl rfl rfl rfl rfl Ty.sz_33 rfl hp rfl (by first | decide | (simp; done) | (simp; omega)) (fun w7 (hp : Hp w7 [(_, Cl [_, _, _, _, _] _), _, _, (_, Cl [_, _, _, _, _, _, _, _, _] _), (_, Cl [_] _), (_, Cl [_] _), (_, Cl [_] _), (_, Cl [_] _), (_, Cl [_] _)]) hf _ => ?_)
    | refine a_store (i := 1) rfl rfl rfl rfl rfl Ty.sz_33 rfl hp rfl (by first | decide | (simp; done) | (simp; omega)) (fun w7 (hp : Hp w7 [(_, Cl [_, _, _, _, _] _), _, _, (_, Cl [_, _, _, _, _, _, _, _, _] _), (_, Cl [_] _), (_, Cl [_] _), (_, Cl [_] _), (_, Cl [_] _), (_, Cl [_] _)]) hf _ => ?_)
    | refine a_store (i := 2) rfl rfl rfl rfl rfl Ty.sz_33 rfl hp rfl (by first | decide | (simp; done) | (simp; omega)) (fun w7 (hp : Hp w7 [(_, Cl [_, _, _, _, _] _), _, _, (_, Cl [_, _, _, _, _, _, _, _, _] _), (_, Cl [_] _), (_, Cl [_] _), (_, Cl [_] _), (_, Cl [_] _), (_, Cl [_] _)]) hf _ => ?_)
    | refine a_store (i := 3) rfl rfl rfl rfl rfl Ty.sz_33 rfl hp rfl (by first | decide | (simp; done) | (simp; omega)) (fun w7 (hp : Hp w7 [(_, Cl [_, _, _, _, _] _), _, _, (_, Cl [_, _, _, _, _, _, _, _, _] _), (_, Cl [_] _), (_, Cl [_] _), (_, Cl [_] _), (_, Cl [_] _), (_, Cl [_] _)]) hf _ => ?_)
    | refine a_store (i := 4) rfl rfl rfl rfl rfl Ty.sz_33 rfl hp rfl (by first | decide | (simp; done) | (simp; omega)) (fun w7 (hp : Hp w7 [(_, Cl [_, _, _, _, _] _), _, _, (_, Cl [_, _, _, _, _, _, _, _, _] _), (_, Cl [_] _), (_, Cl [_] _), (_, Cl [_] _), (_, Cl [_] _), (_, Cl [_] _)]) hf _ => ?_)
    | refine a_store (i := 5) rfl rfl rfl rfl rfl Ty.sz_33 rfl hp rfl (by first | decide | (simp; done) | (simp; omega)) (fun w7 (hp : Hp w7 [(_, Cl [_, _, _, _, _] _), _, _, (_, Cl [_, _, _, _, _, _, _, _, _] _), (_, Cl [_] _), (_, Cl [_] _), (_, Cl [_] _), (_, Cl [_] _), (_, Cl [_] _)]) hf _ => ?_)
    | refine a_store (i := 6) rfl rfl rfl rfl rfl Ty.sz_33 rfl hp rfl (by first | decide | (simp; done) | (simp; omega)) (fun w7 (hp : Hp w7 [(_, Cl [_, _, _, _, _] _), _, _, (_, Cl [_, _, _, _, _, _, _, _, _] _), (_, Cl [_] _), (_, Cl [_] _), (_, Cl [_] _), (_, Cl [_] _), (_, Cl [_] _)]) hf _ => ?_)
    | refine a_store (i := 7) rfl rfl rfl rfl rfl Ty.sz_33 rfl hp rfl (by first | decide | (simp; done) | (simp; omega)) (fun w7 (hp : Hp w7 [(_, Cl [_, _, _, _, _] _), _, _, (_, Cl [_, _, _, _, _, _, _, _, _] _), (_, Cl [_] _), (_, Cl [_] _), (_, Cl [_] _), (_, Cl [_] _), (_, Cl [_] _)]) hf _ => ?_)
    | refine a_store (i := 8) rfl rfl rfl rfl rfl Ty.sz_33 rfl hp rfl (by first | decide | (simp; done) | (simp; omega)) (fun w7 (hp : Hp w7 [(_, Cl [_, _, _, _, _] _), _, _, (_, Cl [_, _, _, _, _, _, _, _, _] _), (_, Cl [_] _), (_, Cl [_] _), (_, Cl [_] _), (_, Cl [_] _), (_, Cl [_] _)]) hf _ => ?_)
  have hF := hF.step hf (by intro y hy; simp only [List.mem_cons, List.not_mem_nil, or_false] at hy; subst hy; first | (exact Or.inr (by omega)) | (exact Or.inl (by simp)))
  refine Ls_nil (Th_n (hK5 _ _ ?_))
  refine Wf_seq ?_
  refine Wf_x (fun K6 hK6 => ?_)
  refine Wp_planF (fun W => Hp W (pickL (heapOf hp) [3, 4])) [(true, 0), (true, 1), (true, 2), (true, 3), (true, 4), (true, 5), (true, 6)] 7 Ty.mx_0 (by kernel_rfl) (by kernel_rfl) (by kernel_rfl) rfl ((hp.picks [3, 4] (by decide)).drew) ?_
  have hp := hp.drew
  have hF := hF.step0 (Fr.drew _)
  first
    | refine Pl_y rfl (wtd0 rfl) rfl rfl (y_load (i := 0) rfl rfl Ty.pl_29 (fun _ h => h) rfl rfl) ?_
    | refine Pl_y rfl (wtd0 rfl) rfl rfl (y_load (i := 1) rfl rfl Ty.pl_29 (fun _ h => h) rfl rfl) ?_
  first
    | refine Pl_y rfl (wtd0 rfl) rfl rfl (y_load (i := 0) rfl rfl Ty.pl_29 (fun _ h => h) rfl rfl) ?_
    | refine Pl_y rfl (wtd0 rfl) rfl rfl (y_load (i := 1) rfl rfl Ty.pl_29 (fun _ h => h) rfl rfl) ?_
  refine Pl_y rfl (wtd0 rfl) rfl rfl (y_nil rfl rfl) ?_
  refine Pl_y rfl (wtd0 rfl) rfl rfl (y_fld rfl rfl Ty.fo_53_5) ?_
  first
    | refine Pl_y rfl (wtd0 rfl) rfl rfl (y_load (i := 0) rfl rfl Ty.pl_32 (fun _ h => h) rfl rfl) ?_
    | refine Pl_y rfl (wtd0 rfl) rfl rfl (y_load (i := 1) rfl rfl Ty.pl_32 (fun _ h => h) rfl rfl) ?_
  refine Pl_y rfl (wtd0 rfl) rfl rfl (y_nil rfl rfl) ?_
  refine Pl_y rfl (wtd0 rfl) rfl rfl (y_fld rfl rfl Ty.fo_53_6) ?_
  refine Pl_nil (Fin_a rfl (wtd0 rfl) ?_)
  first
    | refine a_store (i := 0) rfl rfl rfl rfl rfl Ty.sz_32 rfl hp rfl (by first | decide | (simp; done) | (simp; omega)) (fun w8 (hp : Hp w8 [(_, Cl [_, _, _, _, _] _), _, _, (_, Cl [_, _, _, _, _, _, _, _, _] _), (_, Cl [_] _), (_, Cl [_] _), (_, Cl [_] _), (_, Cl [_] _), (_, Cl [_] _)]) hf _ => ?_)
    | refine a_store (i := 1) rfl rfl rfl rfl rfl Ty.sz_32 rfl hp rfl (by first | decide | (simp; done) | (simp; omega)) (fun w8 (hp : Hp w8 [(_, Cl [_, _, _, _, _] _), _, _, (_, Cl [_, _, _, _, _, _, _, _, _] _), (_, Cl [_] _), (_, Cl [_] _), (_, Cl [_] _), (_, Cl [_] _), (_, Cl [_] _)]) hf _ => ?_)
    | refine a_store (i := 2) rfl rfl rfl rfl rfl Ty.sz_32 rfl hp rfl (by first | decide | (simp; done) | (simp; omega)) (fun w8 (hp : Hp w8 [(_, Cl [_, _, _, _, _] _), _, _, (_, Cl [_, _, _, _, _, _, _, _, _] _), (_, Cl [_] _), (_, Cl [_] _), (_, Cl [_] _), (_, Cl [_] _), (_, Cl [_] _)]) hf _ => ?_)
    | refine a_store (i := 3) rfl rfl rfl rfl rfl Ty.sz_32 rfl hp rfl (by first | decide | (simp; done) | (simp; omega)) (fun w8 (hp : Hp w8 [(_, Cl [_, _, _, _, _] _), _, _, (_, Cl [_, _, _, _, _, _, _, _, _] _), (_, Cl [_] _), (_, Cl [_] _), (_, Cl [_] _), (_, Cl [_] _), (_, Cl [_] _)]) hf _ => ?_)
    | refine a_store (i := 4) rfl rfl rfl rfl rfl Ty.sz_32 rfl hp rfl (by first | decide | (simp; done) | (simp; omega)) (fun w8 (hp : Hp w8 [(_, Cl [_, _, _, _, _] _), _, _, (_, Cl [_, _, _, _, _, _, _, _, _] _), (_, Cl [_] _), (_, Cl [_] _), (_, Cl [_] _), (_, Cl [_] _), (_, Cl [_] _)]) hf _ => ?_)
    | refine a_store (i := 5) rfl rfl rfl rfl rfl Ty.sz_32 rfl hp rfl (by first | decide | (simp; done) | (simp; omega)) (fun w8 (hp : Hp w8 [(_, Cl [_, _, _, _, _] _), _, _, (_, Cl [_, _, _, _, _, _, _, _, _] _), (_, Cl [_] _), (_, Cl [_] _), (_, Cl [_] _), (_, Cl [_] _), (_, Cl [_] _)]) hf _ => ?_)
    | refine a_store (i := 6) rfl rfl rfl rfl rfl Ty.sz_32 rfl hp rfl (by first | decide | (simp; done) | (simp; omega)) (fun w8 (hp : Hp w8 [(_, Cl [_, _, _, _, _] _), _, _, (_, Cl [_, _, _, _, _, _, _, _, _] _), (_, Cl [_] _), (_, Cl [_] _), (_, Cl [_] _), (_, Cl [_] _), (_, Cl [_] _)]) hf _ => ?_)
    | refine a_store (i := 7) rfl rfl rfl rfl rfl Ty.sz_32 rfl hp rfl (by first | decide | (simp; done) | (simp; omega)) (fun w8 (hp : Hp w8 [(_, Cl [_, _, _, _, _] _), _, _, (_, Cl [_, _, _, _, _, _, _, _, _] _), (_, Cl [_] _), (_, Cl [_] _), (_, Cl [_] _), (_, Cl [_] _), (_, Cl [_] _)]) hf _ => ?_)
    | refine a_store (i := 8) rfl rfl rfl rfl rfl Ty.sz_32 rfl hp rfl (by first | decide | (simp; done) | (simp; omega)) (fun w8 (hp : Hp w8 [(_, Cl [_, _, _, _, _] _), _, _, (_, Cl [_, _, _, _, _, _, _, _, _] _), (_, Cl [_] _), (_, Cl [_] _), (_, Cl [_] _), (_, Cl [_] _), (_, Cl [_] _)]) hf _ => ?_)
  have hF := hF.step hf (by intro y hy; simp only [List.mem_cons, List.not_mem_nil, or_false] at hy; subst hy; first | (exact Or.inr (by omega)) | (exact Or.inl (by simp)))
  refine id (Th_n (hK6 _ _ ?_))
  refine Wf_seq ?_
  refine Wf_seq ?_
  refine Wf_x (fun K7 hK7 => ?_)
  refine Wp_region ?_
  first
    | refine Ls_y (wtd0 rfl) rfl rfl (y_load (i := 0) rfl rfl Ty.pl_29 (fun _ e => e ▸ hp) rfl rfl) ?_
    | refine Ls_y (wtd0 rfl) rfl rfl (y_load (i := 1) rfl rfl Ty.pl_29 (fun _ e => e ▸ hp) rfl rfl) ?_
    | refine Ls_y (wtd0 rfl) rfl rfl (y_load (i := 2) rfl rfl Ty.pl_29 (fun _ e => e ▸ hp) rfl rfl) ?_
    | refine Ls_y (wtd0 rfl) rfl rfl (y_load (i := 3) rfl rfl Ty.pl_29 (fun _ e => e ▸ hp) rfl rfl) ?_
    | refine Ls_y (wtd0 rfl) rfl rfl (y_load (i := 4) rfl rfl Ty.pl_29 (fun _ e => e ▸ hp) rfl rfl) ?_
    | refine Ls_y (wtd0 rfl) rfl rfl (y_load (i := 5) rfl rfl Ty.pl_29 (fun _ e => e ▸ hp) rfl rfl) ?_
    | refine Ls_y (wtd0 rfl) rfl rfl (y_load (i := 6) rfl rfl Ty.pl_29 (fun _ e => e ▸ hp) rfl rfl) ?_
    | refine Ls_y (wtd0 rfl) rfl rfl (y_load (i := 7) rfl rfl Ty.pl_29 (fun _ e => e ▸ hp) rfl rfl) ?_
    | refine Ls_y (wtd0 rfl) rfl rfl (y_load (i := 8) rfl rfl Ty.pl_29 (fun _ e => e ▸ hp) rfl rfl) ?_
  refine Ls_a (wtd0 rfl) ?_
  refine a_call rfl rfl rfl rfl (jrun_ok gj p.gd { J with next := J.head } _ (hp.picks [3] (by decide))) (fun v wc2 ⟨gr, hv, hN⟩ => ?_)
  subst hv
  have hp : Hp wc2 [(_, Cl [_, _, _, _, _] _), _, _, (_, Cl [_, _, _, _, _, _, _, _, _] _), (_, Cl [_] _), (_, Cl [_] _), (_, Cl [_] _), (_, Cl [_] _), (_, Cl [_] _), (_, Cl [_] _)] := hp.add hN
  have hgs := Nat.le_trans hF.size (hN.nw gr (by simp [keys]))
  have hF := hF.step0 hN.fr
  refine Ls_nil (Th_n (hK7 _ _ ?_))
  refine Wf_rf rfl Ty.en_58 (fun c Dm l wL hc1 hc2 hc3 htm hF0 hDn hln hpush => ?_)
  have hl0 : w.heap.size ≤ l := Nat.le_trans hF.size hln
  have hd0 : w.heap.size ≤ Dm := Nat.le_trans hF.size hDn
  have hp := hpush _ ((hp.addNone (Cl [] 9)).addNone (Cl [] 5))
  have hp : Hp wL [(_, Cl [_, _, _, _, _] _), _, _, (_, Cl [_, _, _, _, _, _, _, _, _] _), (_, Cl [_] _), (_, Cl [_] _), (_, Cl [_] _), (_, Cl [_] _), (_, Cl [_] _), (_, Cl [_] _), _, _, _, _] := hp
  have hF := hF.step0 hF0
  have hX8 : ∀ A B, (∀ g, blkOf A = some g → w.heap.size ≤ g) → (∀ g, blkOf B = some g → w.heap.size ≤ g) → ∀ y ∈ [gj, g2, g3, g4, g6, l] ++ (blkOf A).toList ++ (blkOf B).toList, y ∈ [gj] ∨ w.heap.size ≤ y := fun A B hA hB => x8_new hg2 hg3 hg4 hg6 hl0 hA hB
  obtain ⟨J0, hJ0⟩ : ∃ J0 : Nat → Nat → World → Prop, J0 = fun k N W => N ≤ W.heap.size ∧ ∃ st : Fs, findF ((runL D J J.size 0 J.least).drop k) st = findJ D J ∧ st.n ≤ k ∧ st.l.length ≤ k ∧ st.text.length ≤ 50 * k ∧ ∃ (A : Option Addr) (ca : Nat) (spa : List Value) (B : Option Addr) (cb : Nat) (spb : List Value), (∀ x ∈ [gj, g2, g3, g4, g6, l] ++ (blkOf A).toList ++ (blkOf B).toList, x < N) ∧ Ow A st.l.length ca 1 (st.l.map sv) spa ∧ Ow B st.text.length cb 1 (st.text.map bv) spb ∧ (∀ g, blkOf A = some g → w.heap.size ≤ g) ∧ (∀ g, blkOf B = some g → w.heap.size ≤ g) ∧ Hp W (jH gj p D { J with next := (st).next } ++ [(some g1, Cl [.pointer (some ⟨gj, 0, none⟩)] 29), (some g2, Cl [.slice A (st).l.length ca] 22), (some g3, Cl [.slice B (st).text.length cb] 45), (some g4, Cl [.int .i64 ((st).n : Int)] 3), (some g6, Cl [.int .u16 (st).gen] 33), (some gr, Cl [.pointer (some ⟨gj, 0, none⟩)] 29), (blkOf A, Cl ((st).l.map sv ++ spa) 9), (blkOf B, Cl ((st).text.map bv ++ spb) 5), (some Dm, .deferred (some [])), (some l, Lr c .ready none)]) ∧ Fr [gj] w W := ⟨_, rfl⟩
  obtain ⟨Jx, hJx⟩ : ∃ Jx : World → Prop, Jx = fun W => ∃ (A : Option Addr) (ca : Nat) (spa : List Value) (B : Option Addr) (cb : Nat) (spb : List Value), Ow A (findJ D J).l.length ca 1 ((findJ D J).l.map sv) spa ∧ Ow B (findJ D J).text.length cb 1 ((findJ D J).text.map bv) spb ∧ (∀ g, blkOf A = some g → w.heap.size ≤ g) ∧ (∀ g, blkOf B = some g → w.heap.size ≤ g) ∧ Hp W (jH gj p D { J with next := (findJ D J).next } ++ [(some g1, Cl [.pointer (some ⟨gj, 0, none⟩)] 29), (some g2, Cl [.slice A (findJ D J).l.length ca] 22), (some g3, Cl [.slice B (findJ D J).text.length cb] 45), (some g4, Cl [.int .i64 ((findJ D J).n : Int)] 3), (some g6, Cl [.int .u16 (findJ D J).gen] 33), (some gr, Cl [.pointer (some ⟨gj, 0, none⟩)] 29), (blkOf A, Cl ((findJ D J).l.map sv ++ spa) 9), (blkOf B, Cl ((findJ D J).text.map bv ++ spb) 5), (some Dm, .deferred (some [])), (some l, Lr c .done (some (.exit 0)))]) ∧ Fr [gj] w W := ⟨_, rfl⟩
  refine (jrun1_ok l gr gj p D J wL hD hJ J0 Jx ?_ ?_ ?_ wL.heap.size ?_).mono (fun _ W' hq => hq.elim (fun hq => ?_) (fun hq => ?_))
  · intro k N W hj
    rw [hJ0] at hj
    obtain ⟨hN, st, _, _, _, _, A, ca, spa, B, cb, spb, _, _, _, _, _, hp, _⟩ := hj
    exact ⟨hN, st.next, J.lasts, hp.picks [0, 1, 2, 3, 9] (by decide)⟩
  · intro k N W W2 hj hf
    rw [hJ0] at hj ⊢
    obtain ⟨hN, st, a1, a2, a3, a4, A, ca, spa, B, cb, spb, a5, a6, a7, a8, a9, hp, hG⟩ := hj
    exact ⟨Nat.le_trans hN hf.size, st, a1, a2, a3, a4, A, ca, spa, B, cb, spb, a5, a6, a7, a8, a9, hp.keep0 hf, hG.step0 hf⟩
  · intro k N cc W hck hj
    rw [hJ0] at hj
    obtain ⟨hNW, st, hst, hsn, hsl, hstx, A, ca, spa, B, cb, spb, hNN, hA, hB, hAn, hBn, hp, hG⟩ := hj
    obtain ⟨kq, hkq, hq, at_, hat⟩ := runL_mem _ _ _ _ (List.mem_of_getElem? hck)
    have hcl := cellAt_len hat
    obtain ⟨cg, cq, cf, cd⟩ := cc
    simp only at hq hcl
    subst hq
    have hkl := (List.getElem?_eq_some_iff.1 hck).1
    have hrl := runL_len (D := D) (J := J) J.size 0 J.least
    have hsz := hJ.size
    have hhd := hJ.head
    have hp : Hp W [(_, Cl [_, _, _, _, _] _), _, _, (_, Cl [_, _, _, _, _, _, _, _, _] _), (_, Cl [_] _), (_, Cl [_] _), (_, Cl [_] _), (_, Cl [_] _), (_, Cl [_] _), (_, Cl [_] _), _, _, _, _] := hp
    have hF := Fr.refl ([gj, g2, g3, g4, g6, l] ++ (blkOf A).toList ++ (blkOf B).toList) W
    have hFq := hF
    refine yieldsTo [18] hc1 rfl rfl (hp.at (i := 13) rfl) htm (fun [inst : Dfs] => ?_)
    rw [hc2]
    dsimp only [parEnv]
    refine Wp_region ?_
    refine Ls_a (wtd0 rfl) ?_
    refine a_alloc rfl rfl rfl Ty.zc_60 hp (fun g9 w9 (hp : Hp w9 [(_, Cl [_, _, _, _, _] _), _, _, (_, Cl [_, _, _, _, _, _, _, _, _] _), (_, Cl [_] _), (_, Cl [_] _), (_, Cl [_] _), (_, Cl [_] _), (_, Cl [_] _), (_, Cl [_] _), _, _, _, _, (_, Cl [_, _, _, _] _)]) hf hg9 => ?_)
    have hg9 := Nat.le_trans hF.size hg9
    have hF := hF.step0 hf
    refine Ls_a (wtd0 rfl) ?_
    first
      | refine a_storew (i := 0) rfl rfl rfl rfl Ty.sz_60 rfl (by first | assumption | (simp [Value.oneCell']; done)) hp rfl rfl (fun w10 (hp : Hp w10 [(_, Cl [_, _, _, _, _] _), _, _, (_, Cl [_, _, _, _, _, _, _, _, _] _), (_, Cl [_] _), (_, Cl [_] _), (_, Cl [_] _), (_, Cl [_] _), (_, Cl [_] _), (_, Cl [_] _), _, _, _, _, (_, Cl [_, _, _, _] _)]) hf _ => ?_)
      | refine a_storew (i := 1) rfl rfl rfl rfl Ty.sz_60 rfl (by first | assumption | (simp [Value.oneCell']; done)) hp rfl rfl (fun w10 (hp : Hp w10 [(_, Cl [_, _, _, _, _] _), _, _, (_, Cl [_, _, _, _, _, _, _, _, _] _), (_, Cl [_] _), (_, Cl [_] _), (_, Cl [_] _), (_, Cl [_] _), (_, Cl [_] _), (_, Cl [_] _), _, _, _, _, (_, Cl [_, _, _, _] _)]) hf _ => ?_)
      | refine a_storew (i := 2) rfl rfl rfl rfl Ty.sz_60 rfl (by first | assumption | (simp [Value.oneCell']; done)) hp rfl rfl (fun w10 (hp : Hp w10 [(_, Cl [_, _, _, _, _] _), _, _, (_, Cl [_, _, _, _, _, _, _, _, _] _), (_, Cl [_] _), (_, Cl [_] _), (_, Cl [_] _), (_, Cl [_] _), (_, Cl [_] _), (_, Cl [_] _), _, _, _, _, (_, Cl [_, _, _, _] _)]) hf _ => ?_)
      | refine a_storew (i := 3) rfl rfl rfl rfl Ty.sz_60 rfl (by first | assumption | (simp [Value.oneCell']; done)) hp rfl rfl (fun w10 (hp : Hp w10 [(_, Cl [_, _, _, _, _] _), _, _, (_, Cl [_, _, _, _, _, _, _, _, _] _), (_, Cl [_] _), (_, Cl [_] _), (_, Cl [_] _), (_, Cl [_] _), (_, Cl [_] _), (_, Cl [_] _), _, _, _, _, (_, Cl [_, _, _, _] _)]) hf _ => ?_)
      | refine a_storew (i := 4) rfl rfl rfl rfl Ty.sz_60 rfl (by first | assumption | (simp [Value.oneCell']; done)) hp rfl rfl (fun w10 (hp : Hp w10 [(_, Cl [_, _, _, _, _] _), _, _, (_, Cl [_, _, _, _, _, _, _, _, _] _), (_, Cl [_] _), (_, Cl [_] _), (_, Cl [_] _), (_, Cl [_] _), (_, Cl [_] _), (_, Cl [_] _), _, _, _, _, (_, Cl [_, _, _, _] _)]) hf _ => ?_)
      | refine a_storew (i := 5) rfl rfl rfl rfl Ty.sz_60 rfl (by first | assumption | (simp [Value.oneCell']; done)) hp rfl rfl (fun w10 (hp : Hp w10 [(_, Cl [_, _, _, _, _] _), _, _, (_, Cl [_, _, _, _, _, _, _, _, _] _), (_, Cl [_] _), (_, Cl [_] _), (_, Cl [_] _), (_, Cl [_] _), (_, Cl [_] _), (_, Cl [_] _), _, _, _, _, (_, Cl [_, _, _, _] _)]) hf _ => ?_)
      | refine a_storew (i := 6) rfl rfl rfl rfl Ty.sz_60 rfl (by first | assumption | (simp [Value.oneCell']; done)) hp rfl rfl (fun w10 (hp : Hp w10 [(_, Cl [_, _, _, _, _] _), _, _, (_, Cl [_, _, _, _, _, _, _, _, _] _), (_, Cl [_] _), (_, Cl [_] _), (_, Cl [_] _), (_, Cl [_] _), (_, Cl [_] _), (_, Cl [_] _), _, _, _, _, (_, Cl [_, _, _, _] _)]) hf _ => ?_)
      | refine a_storew (i := 7) rfl rfl rfl rfl Ty.sz_60 rfl (by first | assumption | (simp [Value.oneCell']; done)) hp rfl rfl (fun w10 (hp : Hp w10 [(_, Cl [_, _, _, _, _] _), _, _, (_, Cl [_, _, _, _, _, _, _, _, _] _), (_, Cl [_] _), (_, Cl [_] _), (_, Cl [_] _), (_, Cl [_] _), (_, Cl [_] _), (_, Cl [_] _), _, _, _, _, (_, Cl [_, _, _, _] _)]) hf _ => ?_)
      | refine a_storew (i := 8) rfl rfl rfl rfl Ty.sz_60 rfl (by first | assumption | (simp [Value.oneCell']; done)) hp rfl rfl (fun w10 (hp : Hp w10 [(_, Cl [_, _, _, _, _] _), _, _, (_, Cl [_, _, _, _, _, _, _, _, _] _), (_, Cl [_] _), (_, Cl [_] _), (_, Cl [_] _), (_, Cl [_] _), (_, Cl [_] _), (_, Cl [_] _), _, _, _, _, (_, Cl [_, _, _, _] _)]) hf _ => ?_)
      | refine a_storew (i := 9) rfl rfl rfl rfl Ty.sz_60 rfl (by first | assumption | (simp [Value.oneCell']; done)) hp rfl rfl (fun w10 (hp : Hp w10 [(_, Cl [_, _, _, _, _] _), _, _, (_, Cl [_, _, _, _, _, _, _, _, _] _), (_, Cl [_] _), (_, Cl [_] _), (_, Cl [_] _), (_, Cl [_] _), (_, Cl [_] _), (_, Cl [_] _), _, _, _, _, (_, Cl [_, _, _, _] _)]) hf _ => ?_)
      | refine a_storew (i := 10) rfl rfl rfl rfl Ty.sz_60 rfl (by first | assumption | (simp [Value.oneCell']; done)) hp rfl rfl (fun w10 (hp : Hp w10 [(_, Cl [_, _, _, _, _] _), _, _, (_, Cl [_, _, _, _, _, _, _, _, _] _), (_, Cl [_] _), (_, Cl [_] _), (_, Cl [_] _), (_, Cl [_] _), (_, Cl [_] _), (_, Cl [_] _), _, _, _, _, (_, Cl [_, _, _, _] _)]) hf _ => ?_)
      | refine a_storew (i := 11) rfl rfl rfl rfl Ty.sz_60 rfl (by first | assumption | (simp [Value.oneCell']; done)) hp rfl rfl (fun w10 (hp : Hp w10 [(_, Cl [_, _, _, _, _] _), _, _, (_, Cl [_, _, _, _, _, _, _, _, _] _), (_, Cl [_] _), (_, Cl [_] _), (_, Cl [_] _), (_, Cl [_] _), (_, Cl [_] _), (_, Cl [_] _), _, _, _, _, (_, Cl [_, _, _, _] _)]) hf _ => ?_)
      | refine a_storew (i := 12) rfl rfl rfl rfl Ty.sz_60 rfl (by first | assumption | (simp [Value.oneCell']; done)) hp rfl rfl (fun w10 (hp : Hp w10 [(_, Cl [_, _, _, _, _] _), _, _, (_, Cl [_, _, _, _, _, _, _, _, _] _), (_, Cl [_] _), (_, Cl [_] _), (_, Cl [_] _), (_, Cl [_] _), (_, Cl [_] _), (_, Cl [_] _), _, _, _, _, (_, Cl [_, _, _, _] _)]) hf _ => ?_)
      | refine a_storew (i := 13) rfl rfl rfl rfl Ty.sz_60 rfl (by first | assumption | (simp [Value.oneCell']; done)) hp rfl rfl (fun w10 (hp : Hp w10 [(_, Cl [_, _, _, _, _] _), _, _, (_, Cl [_, _, _, _, _, _, _, _, _] _), (_, Cl [_] _), (_, Cl [_] _), (_, Cl [_] _), (_, Cl [_] _), (_, Cl [_] _), (_, Cl [_] _), _, _, _, _, (_, Cl [_, _, _, _] _)]) hf _ => ?_)
      | refine a_storew (i := 14) rfl rfl rfl rfl Ty.sz_60 rfl (by first | assumption | (simp [Value.oneCell']; done)) hp rfl rfl (fun w10 (hp : Hp w10 [(_, Cl [_, _, _, _, _] _), _, _, (_, Cl [_, _, _, _, _, _, _, _, _] _), (_, Cl [_] _), (_, Cl [_] _), (_, Cl [_] _), (_, Cl [_] _), (_, Cl [_] _), (_, Cl [_] _), _, _, _, _, (_, Cl [_, _, _, _] _)]) hf _ => ?_)
    have hF := hF.step hf (by intro y hy; simp only [List.mem_cons, List.not_mem_nil, or_false] at hy; subst hy; first | (exact Or.inr (by omega)) | (exact Or.inl (by simp)))
    refine Ls_nil (Th_n (⟨_, 13, hp, rfl, fun WB hp hf => ?_⟩))
    have hp : Hp WB [(_, Cl [_, _, _, _, _] _), _, _, (_, Cl [_, _, _, _, _, _, _, _, _] _), (_, Cl [_] _), (_, Cl [_] _), (_, Cl [_] _), (_, Cl [_] _), (_, Cl [_] _), (_, Cl [_] _), _, _, _, _, (_, Cl [_, _, _, _] _)] := hp
    have hF := hF.step hf (by simp)
    rw [hc3]
    refine Wp_block ?_
    refine Wp_seq fun K8 hK8 => ?_
    refine Wp_region ?_
    refine Ls_y (wtd0 rfl) rfl rfl (y_fld rfl rfl Ty.fo_60_2) ?_
    first
      | refine Ls_y (wtd0 rfl) rfl rfl (y_load (i := 0) rfl rfl Ty.pl_5 (fun _ e => e ▸ hp) rfl rfl) ?_
      | refine Ls_y (wtd0 rfl) rfl rfl (y_load (i := 1) rfl rfl Ty.pl_5 (fun _ e => e ▸ hp) rfl rfl) ?_
      | refine Ls_y (wtd0 rfl) rfl rfl (y_load (i := 2) rfl rfl Ty.pl_5 (fun _ e => e ▸ hp) rfl rfl) ?_
      | refine Ls_y (wtd0 rfl) rfl rfl (y_load (i := 3) rfl rfl Ty.pl_5 (fun _ e => e ▸ hp) rfl rfl) ?_
      | refine Ls_y (wtd0 rfl) rfl rfl (y_load (i := 4) rfl rfl Ty.pl_5 (fun _ e => e ▸ hp) rfl rfl) ?_
      | refine Ls_y (wtd0 rfl) rfl rfl (y_load (i := 5) rfl rfl Ty.pl_5 (fun _ e => e ▸ hp) rfl rfl) ?_
      | refine Ls_y (wtd0 rfl) rfl rfl (y_load (i := 6) rfl rfl Ty.pl_5 (fun _ e => e ▸ hp) rfl rfl) ?_
      | refine Ls_y (wtd0 rfl) rfl rfl (y_load (i := 7) rfl rfl Ty.pl_5 (fun _ e => e ▸ hp) rfl rfl) ?_
      | refine Ls_y (wtd0 rfl) rfl rfl (y_load (i := 8) rfl rfl Ty.pl_5 (fun _ e => e ▸ hp) rfl rfl) ?_
      | refine Ls_y (wtd0 rfl) rfl rfl (y_load (i := 9) rfl rfl Ty.pl_5 (fun _ e => e ▸ hp) rfl rfl) ?_
      | refine Ls_y (wtd0 rfl) rfl rfl (y_load (i := 10) rfl rfl Ty.pl_5 (fun _ e => e ▸ hp) rfl rfl) ?_
      | refine Ls_y (wtd0 rfl) rfl rfl (y_load (i := 11) rfl rfl Ty.pl_5 (fun _ e => e ▸ hp) rfl rfl) ?_
      | refine Ls_y (wtd0 rfl) rfl rfl (y_load (i := 12) rfl rfl Ty.pl_5 (fun _ e => e ▸ hp) rfl rfl) ?_
      | refine Ls_y (wtd0 rfl) rfl rfl (y_load (i := 13) rfl rfl Ty.pl_5 (fun _ e => e ▸ hp) rfl rfl) ?_
      | refine Ls_y (wtd0 rfl) rfl rfl (y_load (i := 14) rfl rfl Ty.pl_5 (fun _ e => e ▸ hp) rfl rfl) ?_
    refine Ls_y (wtd0 rfl) rfl rfl (y_bits rfl rfl rfl (by simp) rfl) ?_
    refine Ls_y (wtd0 rfl) rfl rfl (y_ne rfl rfl rfl) ?_
    refine Ls_y (wtd0 rfl) rfl rfl (y_assign rfl rfl) ?_
    refine Ls_nil (Th_n (hK8 _ _ ?_))
    refine Wp_seq fun K9 hK9 => ?_
    refine Wp_seq fun K10 hK10 => ?_
    refine Wp_region ?_
    refine Ls_y (wtd0 rfl) rfl rfl (y_fld rfl rfl Ty.fo_60_2) ?_
    first
      | refine Ls_y (wtd0 rfl) rfl rfl (y_load (i := 0) rfl rfl Ty.pl_5 (fun _ e => e ▸ hp) rfl rfl) ?_
      | refine Ls_y (wtd0 rfl) rfl rfl (y_load (i := 1) rfl rfl Ty.pl_5 (fun _ e => e ▸ hp) rfl rfl) ?_
      | refine Ls_y (wtd0 rfl) rfl rfl (y_load (i := 2) rfl rfl Ty.pl_5 (fun _ e => e ▸ hp) rfl rfl) ?_
      | refine Ls_y (wtd0 rfl) rfl rfl (y_load (i := 3) rfl rfl Ty.pl_5 (fun _ e => e ▸ hp) rfl rfl) ?_
      | refine Ls_y (wtd0 rfl) rfl rfl (y_load (i := 4) rfl rfl Ty.pl_5 (fun _ e => e ▸ hp) rfl rfl) ?_
      | refine Ls_y (wtd0 rfl) rfl rfl (y_load (i := 5) rfl rfl Ty.pl_5 (fun _ e => e ▸ hp) rfl rfl) ?_
      | refine Ls_y (wtd0 rfl) rfl rfl (y_load (i := 6) rfl rfl Ty.pl_5 (fun _ e => e ▸ hp) rfl rfl) ?_
      | refine Ls_y (wtd0 rfl) rfl rfl (y_load (i := 7) rfl rfl Ty.pl_5 (fun _ e => e ▸ hp) rfl rfl) ?_
      | refine Ls_y (wtd0 rfl) rfl rfl (y_load (i := 8) rfl rfl Ty.pl_5 (fun _ e => e ▸ hp) rfl rfl) ?_
      | refine Ls_y (wtd0 rfl) rfl rfl (y_load (i := 9) rfl rfl Ty.pl_5 (fun _ e => e ▸ hp) rfl rfl) ?_
      | refine Ls_y (wtd0 rfl) rfl rfl (y_load (i := 10) rfl rfl Ty.pl_5 (fun _ e => e ▸ hp) rfl rfl) ?_
      | refine Ls_y (wtd0 rfl) rfl rfl (y_load (i := 11) rfl rfl Ty.pl_5 (fun _ e => e ▸ hp) rfl rfl) ?_
      | refine Ls_y (wtd0 rfl) rfl rfl (y_load (i := 12) rfl rfl Ty.pl_5 (fun _ e => e ▸ hp) rfl rfl) ?_
      | refine Ls_y (wtd0 rfl) rfl rfl (y_load (i := 13) rfl rfl Ty.pl_5 (fun _ e => e ▸ hp) rfl rfl) ?_
      | refine Ls_y (wtd0 rfl) rfl rfl (y_load (i := 14) rfl rfl Ty.pl_5 (fun _ e => e ▸ hp) rfl rfl) ?_
    refine Ls_y (wtd0 rfl) rfl rfl (y_ge rfl rfl rfl) ?_
    refine Ls_bool 25 rfl (fun hf4 => ?_) (fun hf4 => ?_)
    all_goals try simp only [decide_eq_true_eq, decide_eq_false_iff_not, beq_iff_eq, bne_iff_ne, ne_eq, beq_eq_false_iff_ne, bne_eq_false_iff_eq, Bool.not_eq_true, Bool.not_eq_false] at hf4
    · refine Ls_y (wtd0 rfl) rfl rfl (y_move rfl rfl) ?_
      refine Ls_s (wtdF rfl rfl rfl) rfl rfl ?_
      refine Ls_s (wtdF rfl rfl rfl) rfl rfl ?_
      refine Ls_s (wtdF rfl rfl rfl) rfl rfl ?_
      refine Ls_s (wtdF rfl rfl rfl) rfl rfl ?_
      refine Ls_y (wtd0 rfl) rfl rfl (y_pick_t rfl rfl rfl) ?_
      refine Ls_y (wtd0 rfl) rfl rfl (y_move rfl rfl) ?_
      refine Ls_s (wtdF rfl rfl rfl) rfl rfl ?_
      refine Ls_s (wtdF rfl rfl rfl) rfl rfl ?_
      refine Ls_y (wtd0 rfl) rfl rfl (y_pick_t rfl rfl rfl) ?_
      refine Ls_y (wtd0 rfl) rfl rfl (y_move rfl rfl) ?_
      refine Ls_s (wtdF rfl rfl rfl) rfl rfl ?_
      refine Ls_s (wtdF rfl rfl rfl) rfl rfl ?_
      refine Ls_s (wtdF rfl rfl rfl) rfl rfl ?_
      refine Ls_s (wtdU rfl rfl rfl) rfl rfl ?_
      refine Ls_s (wtdU rfl rfl rfl) rfl rfl ?_
      refine Ls_s (wtdU rfl rfl rfl) rfl rfl ?_
      refine Ls_s (wtdU rfl rfl rfl) rfl rfl ?_
      refine Ls_s (wtdF rfl rfl rfl) rfl rfl ?_
      refine Ls_y (wtd0 rfl) rfl rfl (y_pick_t rfl rfl rfl) ?_
      refine Ls_nil (Th_n (hK10 _ _ ?_))
      refine Wp_cond_t rfl ?_
      refine Wp_exit (Th_e (Ib_miss rfl (Rd_e (i := 13) hp rfl (fun WE hp hf => ?_))))
      have hb : fbad st (cg, ((J.head + kq : Nat) : Int), cf, cd) = true := by unfold fbad; simp only [Bool.or_eq_true]; exact .inl (.inl (.inl (decide_eq_true hf4)))
      have e : findJ D J = st := by rw [← hst]; exact findF_bad hck hb
      have hF := hF.step hf (by simp)
      rw [hJx, e]
      exact ⟨A, ca, spa, B, cb, spb, hA, hB, hAn, hBn, (hp.picks [0, 1, 2, 3, 4, 5, 6, 7, 8, 9, 10, 11, 12, 13] (by decide)), hG.step hF (hX8 _ _ hAn hBn)⟩
    · refine Ls_y (wtd0 rfl) rfl rfl (y_move rfl rfl) ?_
      refine Ls_y (wtdT rfl rfl rfl) rfl rfl (y_move rfl rfl) ?_
      first
        | refine Ls_y (wtdT rfl rfl rfl) rfl rfl (y_load (i := 0) rfl rfl Ty.pl_3 (fun _ e => e ▸ hp) rfl rfl) ?_
        | refine Ls_y (wtdT rfl rfl rfl) rfl rfl (y_load (i := 1) rfl rfl Ty.pl_3 (fun _ e => e ▸ hp) rfl rfl) ?_
        | refine Ls_y (wtdT rfl rfl rfl) rfl rfl (y_load (i := 2) rfl rfl Ty.pl_3 (fun _ e => e ▸ hp) rfl rfl) ?_
        | refine Ls_y (wtdT rfl rfl rfl) rfl rfl (y_load (i := 3) rfl rfl Ty.pl_3 (fun _ e => e ▸ hp) rfl rfl) ?_
        | refine Ls_y (wtdT rfl rfl rfl) rfl rfl (y_load (i := 4) rfl rfl Ty.pl_3 (fun _ e => e ▸ hp) rfl rfl) ?_
        | refine Ls_y (wtdT rfl rfl rfl) rfl rfl (y_load (i := 5) rfl rfl Ty.pl_3 (fun _ e => e ▸ hp) rfl rfl) ?_
        | refine Ls_y (wtdT rfl rfl rfl) rfl rfl (y_load (i := 6) rfl rfl Ty.pl_3 (fun _ e => e ▸ hp) rfl rfl) ?_
        | refine Ls_y (wtdT rfl rfl rfl) rfl rfl (y_load (i := 7) rfl rfl Ty.pl_3 (fun _ e => e ▸ hp) rfl rfl) ?_
        | refine Ls_y (wtdT rfl rfl rfl) rfl rfl (y_load (i := 8) rfl rfl Ty.pl_3 (fun _ e => e ▸ hp) rfl rfl) ?_
        | refine Ls_y (wtdT rfl rfl rfl) rfl rfl (y_load (i := 9) rfl rfl Ty.pl_3 (fun _ e => e ▸ hp) rfl rfl) ?_
        | refine Ls_y (wtdT rfl rfl rfl) rfl rfl (y_load (i := 10) rfl rfl Ty.pl_3 (fun _ e => e ▸ hp) rfl rfl) ?_
        | refine Ls_y (wtdT rfl rfl rfl) rfl rfl (y_load (i := 11) rfl rfl Ty.pl_3 (fun _ e => e ▸ hp) rfl rfl) ?_
        | refine Ls_y (wtdT rfl rfl rfl) rfl rfl (y_load (i := 12) rfl rfl Ty.pl_3 (fun _ e => e ▸ hp) rfl rfl) ?_
        | refine Ls_y (wtdT rfl rfl rfl) rfl rfl (y_load (i := 13) rfl rfl Ty.pl_3 (fun _ e => e ▸ hp) rfl rfl) ?_
        | refine Ls_y (wtdT rfl rfl rfl) rfl rfl (y_load (i := 14) rfl rfl Ty.pl_3 (fun _ e => e ▸ hp) rfl rfl) ?_
      refine Ls_y (wtdT rfl rfl rfl) rfl rfl (y_eq rfl rfl rfl) ?_
      refine Ls_y (wtdT rfl rfl rfl) rfl rfl (y_neb rfl rfl rfl Try.underlying4) ?_
      refine Ls_bool 30 rfl (fun hbn => ?_) (fun hbn => ?_)
      all_goals try simp only [decide_eq_true_eq, decide_eq_false_iff_not, beq_iff_eq, bne_iff_ne, ne_eq, beq_eq_false_iff_ne, bne_eq_false_iff_eq, Bool.not_eq_true, Bool.not_eq_false] at hbn
      · refine Ls_y (wtd0 rfl) rfl rfl (y_pick_f rfl rfl rfl) ?_
        refine Ls_y (wtd0 rfl) rfl rfl (y_move rfl rfl) ?_
        refine Ls_s (wtdF rfl rfl rfl) rfl rfl ?_
        refine Ls_s (wtdF rfl rfl rfl) rfl rfl ?_
        refine Ls_y (wtd0 rfl) rfl rfl (y_pick_t rfl rfl rfl) ?_
        refine Ls_y (wtd0 rfl) rfl rfl (y_move rfl rfl) ?_
        refine Ls_s (wtdF rfl rfl rfl) rfl rfl ?_
        refine Ls_s (wtdF rfl rfl rfl) rfl rfl ?_
        refine Ls_s (wtdF rfl rfl rfl) rfl rfl ?_
        refine Ls_s (wtdU rfl rfl rfl) rfl rfl ?_
        refine Ls_s (wtdU rfl rfl rfl) rfl rfl ?_
        refine Ls_s (wtdU rfl rfl rfl) rfl rfl ?_
        refine Ls_s (wtdU rfl rfl rfl) rfl rfl ?_
        refine Ls_s (wtdF rfl rfl rfl) rfl rfl ?_
        refine Ls_y (wtd0 rfl) rfl rfl (y_pick_t rfl rfl rfl) ?_
        refine Ls_nil (Th_n (hK10 _ _ ?_))
        refine Wp_cond_t rfl ?_
        refine Wp_exit (Th_e (Ib_miss rfl (Rd_e (i := 13) hp rfl (fun WE hp hf => ?_))))
        have hb : fbad st (cg, ((J.head + kq : Nat) : Int), cf, cd) = true := by unfold fbad; simp only [Bool.or_eq_true]; exact .inl (.inl (.inr (bne_iff_ne.2 hbn)))
        have e : findJ D J = st := by rw [← hst]; exact findF_bad hck hb
        have hF := hF.step hf (by simp)
        rw [hJx, e]
        exact ⟨A, ca, spa, B, cb, spb, hA, hB, hAn, hBn, (hp.picks [0, 1, 2, 3, 4, 5, 6, 7, 8, 9, 10, 11, 12, 13] (by decide)), hG.step hF (hX8 _ _ hAn hBn)⟩
      · refine Ls_y (wtd0 rfl) rfl rfl (y_pick_f rfl rfl rfl) ?_
        refine Ls_y (wtd0 rfl) rfl rfl (y_move rfl rfl) ?_
        first
          | refine Ls_y (wtdT rfl rfl rfl) rfl rfl (y_load (i := 0) rfl rfl Ty.pl_3 (fun _ e => e ▸ hp) rfl rfl) ?_
          | refine Ls_y (wtdT rfl rfl rfl) rfl rfl (y_load (i := 1) rfl rfl Ty.pl_3 (fun _ e => e ▸ hp) rfl rfl) ?_
          | refine Ls_y (wtdT rfl rfl rfl) rfl rfl (y_load (i := 2) rfl rfl Ty.pl_3 (fun _ e => e ▸ hp) rfl rfl) ?_
          | refine Ls_y (wtdT rfl rfl rfl) rfl rfl (y_load (i := 3) rfl rfl Ty.pl_3 (fun _ e => e ▸ hp) rfl rfl) ?_
          | refine Ls_y (wtdT rfl rfl rfl) rfl rfl (y_load (i := 4) rfl rfl Ty.pl_3 (fun _ e => e ▸ hp) rfl rfl) ?_
          | refine Ls_y (wtdT rfl rfl rfl) rfl rfl (y_load (i := 5) rfl rfl Ty.pl_3 (fun _ e => e ▸ hp) rfl rfl) ?_
          | refine Ls_y (wtdT rfl rfl rfl) rfl rfl (y_load (i := 6) rfl rfl Ty.pl_3 (fun _ e => e ▸ hp) rfl rfl) ?_
          | refine Ls_y (wtdT rfl rfl rfl) rfl rfl (y_load (i := 7) rfl rfl Ty.pl_3 (fun _ e => e ▸ hp) rfl rfl) ?_
          | refine Ls_y (wtdT rfl rfl rfl) rfl rfl (y_load (i := 8) rfl rfl Ty.pl_3 (fun _ e => e ▸ hp) rfl rfl) ?_
          | refine Ls_y (wtdT rfl rfl rfl) rfl rfl (y_load (i := 9) rfl rfl Ty.pl_3 (fun _ e => e ▸ hp) rfl rfl) ?_
          | refine Ls_y (wtdT rfl rfl rfl) rfl rfl (y_load (i := 10) rfl rfl Ty.pl_3 (fun _ e => e ▸ hp) rfl rfl) ?_
          | refine Ls_y (wtdT rfl rfl rfl) rfl rfl (y_load (i := 11) rfl rfl Ty.pl_3 (fun _ e => e ▸ hp) rfl rfl) ?_
          | refine Ls_y (wtdT rfl rfl rfl) rfl rfl (y_load (i := 12) rfl rfl Ty.pl_3 (fun _ e => e ▸ hp) rfl rfl) ?_
          | refine Ls_y (wtdT rfl rfl rfl) rfl rfl (y_load (i := 13) rfl rfl Ty.pl_3 (fun _ e => e ▸ hp) rfl rfl) ?_
          | refine Ls_y (wtdT rfl rfl rfl) rfl rfl (y_load (i := 14) rfl rfl Ty.pl_3 (fun _ e => e ▸ hp) rfl rfl) ?_
        refine Ls_y (wtdT rfl rfl rfl) rfl rfl (y_eq rfl rfl rfl) ?_
        refine Ls_bool 34 rfl (fun h82 => ?_) (fun h82 => ?_)
        all_goals try simp only [decide_eq_true_eq, decide_eq_false_iff_not, beq_iff_eq, bne_iff_ne, ne_eq, beq_eq_false_iff_ne, bne_eq_false_iff_eq, Bool.not_eq_true, Bool.not_eq_false] at h82
        · refine Ls_y (wtd0 rfl) rfl rfl (y_pick_f rfl rfl rfl) ?_
          refine Ls_y (wtd0 rfl) rfl rfl (y_move rfl rfl) ?_
          refine Ls_s (wtdF rfl rfl rfl) rfl rfl ?_
          refine Ls_s (wtdF rfl rfl rfl) rfl rfl ?_
          refine Ls_s (wtdF rfl rfl rfl) rfl rfl ?_
          refine Ls_s (wtdU rfl rfl rfl) rfl rfl ?_
          refine Ls_s (wtdU rfl rfl rfl) rfl rfl ?_
          refine Ls_s (wtdU rfl rfl rfl) rfl rfl ?_
          refine Ls_s (wtdU rfl rfl rfl) rfl rfl ?_
          refine Ls_s (wtdF rfl rfl rfl) rfl rfl ?_
          refine Ls_y (wtd0 rfl) rfl rfl (y_pick_t rfl rfl rfl) ?_
          refine Ls_nil (Th_n (hK10 _ _ ?_))
          refine Wp_cond_t rfl ?_
          refine Wp_exit (Th_e (Ib_miss rfl (Rd_e (i := 13) hp rfl (fun WE hp hf => ?_))))
          have hb : fbad st (cg, ((J.head + kq : Nat) : Int), cf, cd) = true := by unfold fbad; simp only [Bool.or_eq_true]; exact .inl (.inr (beq_iff_eq.2 h82))
          have e : findJ D J = st := by rw [← hst]; exact findF_bad hck hb
          have hF := hF.step hf (by simp)
          rw [hJx, e]
          exact ⟨A, ca, spa, B, cb, spb, hA, hB, hAn, hBn, (hp.picks [0, 1, 2, 3, 4, 5, 6, 7, 8, 9, 10, 11, 12, 13] (by decide)), hG.step hF (hX8 _ _ hAn hBn)⟩
        · refine Ls_y (wtd0 rfl) rfl rfl (y_pick_f rfl rfl rfl) ?_
          refine Ls_y (wtd0 rfl) rfl rfl (y_move rfl rfl) ?_
          refine Ls_y (wtdT rfl rfl rfl) rfl rfl (y_move rfl rfl) ?_
          refine Ls_y (wtdT rfl rfl rfl) rfl rfl (y_not rfl rfl) ?_
          refine Ls_y (wtdT rfl rfl rfl) rfl rfl (y_move rfl rfl) ?_
          refine Ls_bool 39 rfl (fun hnb => ?_) (fun hnb => ?_)
          all_goals try simp only [decide_eq_true_eq, decide_eq_false_iff_not, beq_iff_eq, bne_iff_ne, ne_eq, beq_eq_false_iff_ne, bne_eq_false_iff_eq, Bool.not_eq_true, Bool.not_eq_false] at hnb
          · refine Ls_y (wtdT rfl rfl rfl) rfl rfl (y_fld rfl rfl Ty.fo_60_0) ?_
            first
              | refine Ls_y (wtdT rfl rfl rfl) rfl rfl (y_load (i := 0) rfl rfl Ty.pl_33 (fun _ e => e ▸ hp) rfl rfl) ?_
              | refine Ls_y (wtdT rfl rfl rfl) rfl rfl (y_load (i := 1) rfl rfl Ty.pl_33 (fun _ e => e ▸ hp) rfl rfl) ?_
              | refine Ls_y (wtdT rfl rfl rfl) rfl rfl (y_load (i := 2) rfl rfl Ty.pl_33 (fun _ e => e ▸ hp) rfl rfl) ?_
              | refine Ls_y (wtdT rfl rfl rfl) rfl rfl (y_load (i := 3) rfl rfl Ty.pl_33 (fun _ e => e ▸ hp) rfl rfl) ?_
              | refine Ls_y (wtdT rfl rfl rfl) rfl rfl (y_load (i := 4) rfl rfl Ty.pl_33 (fun _ e => e ▸ hp) rfl rfl) ?_
              | refine Ls_y (wtdT rfl rfl rfl) rfl rfl (y_load (i := 5) rfl rfl Ty.pl_33 (fun _ e => e ▸ hp) rfl rfl) ?_
              | refine Ls_y (wtdT rfl rfl rfl) rfl rfl (y_load (i := 6) rfl rfl Ty.pl_33 (fun _ e => e ▸ hp) rfl rfl) ?_
              | refine Ls_y (wtdT rfl rfl rfl) rfl rfl (y_load (i := 7) rfl rfl Ty.pl_33 (fun _ e => e ▸ hp) rfl rfl) ?_
              | refine Ls_y (wtdT rfl rfl rfl) rfl rfl (y_load (i := 8) rfl rfl Ty.pl_33 (fun _ e => e ▸ hp) rfl rfl) ?_
              | refine Ls_y (wtdT rfl rfl rfl) rfl rfl (y_load (i := 9) rfl rfl Ty.pl_33 (fun _ e => e ▸ hp) rfl rfl) ?_
              | refine Ls_y (wtdT rfl rfl rfl) rfl rfl (y_load (i := 10) rfl rfl Ty.pl_33 (fun _ e => e ▸ hp) rfl rfl) ?_
              | refine Ls_y (wtdT rfl rfl rfl) rfl rfl (y_load (i := 11) rfl rfl Ty.pl_33 (fun _ e => e ▸ hp) rfl rfl) ?_
              | refine Ls_y (wtdT rfl rfl rfl) rfl rfl (y_load (i := 12) rfl rfl Ty.pl_33 (fun _ e => e ▸ hp) rfl rfl) ?_
              | refine Ls_y (wtdT rfl rfl rfl) rfl rfl (y_load (i := 13) rfl rfl Ty.pl_33 (fun _ e => e ▸ hp) rfl rfl) ?_
              | refine Ls_y (wtdT rfl rfl rfl) rfl rfl (y_load (i := 14) rfl rfl Ty.pl_33 (fun _ e => e ▸ hp) rfl rfl) ?_
            first
              | refine Ls_y (wtdT rfl rfl rfl) rfl rfl (y_load (i := 0) rfl rfl Ty.pl_33 (fun _ e => e ▸ hp) rfl rfl) ?_
              | refine Ls_y (wtdT rfl rfl rfl) rfl rfl (y_load (i := 1) rfl rfl Ty.pl_33 (fun _ e => e ▸ hp) rfl rfl) ?_
              | refine Ls_y (wtdT rfl rfl rfl) rfl rfl (y_load (i := 2) rfl rfl Ty.pl_33 (fun _ e => e ▸ hp) rfl rfl) ?_
              | refine Ls_y (wtdT rfl rfl rfl) rfl rfl (y_load (i := 3) rfl rfl Ty.pl_33 (fun _ e => e ▸ hp) rfl rfl) ?_
              | refine Ls_y (wtdT rfl rfl rfl) rfl rfl (y_load (i := 4) rfl rfl Ty.pl_33 (fun _ e => e ▸ hp) rfl rfl) ?_
              | refine Ls_y (wtdT rfl rfl rfl) rfl rfl (y_load (i := 5) rfl rfl Ty.pl_33 (fun _ e => e ▸ hp) rfl rfl) ?_
              | refine Ls_y (wtdT rfl rfl rfl) rfl rfl (y_load (i := 6) rfl rfl Ty.pl_33 (fun _ e => e ▸ hp) rfl rfl) ?_
              | refine Ls_y (wtdT rfl rfl rfl) rfl rfl (y_load (i := 7) rfl rfl Ty.pl_33 (fun _ e => e ▸ hp) rfl rfl) ?_
              | refine Ls_y (wtdT rfl rfl rfl) rfl rfl (y_load (i := 8) rfl rfl Ty.pl_33 (fun _ e => e ▸ hp) rfl rfl) ?_
              | refine Ls_y (wtdT rfl rfl rfl) rfl rfl (y_load (i := 9) rfl rfl Ty.pl_33 (fun _ e => e ▸ hp) rfl rfl) ?_
              | refine Ls_y (wtdT rfl rfl rfl) rfl rfl (y_load (i := 10) rfl rfl Ty.pl_33 (fun _ e => e ▸ hp) rfl rfl) ?_
              | refine Ls_y (wtdT rfl rfl rfl) rfl rfl (y_load (i := 11) rfl rfl Ty.pl_33 (fun _ e => e ▸ hp) rfl rfl) ?_
              | refine Ls_y (wtdT rfl rfl rfl) rfl rfl (y_load (i := 12) rfl rfl Ty.pl_33 (fun _ e => e ▸ hp) rfl rfl) ?_
              | refine Ls_y (wtdT rfl rfl rfl) rfl rfl (y_load (i := 13) rfl rfl Ty.pl_33 (fun _ e => e ▸ hp) rfl rfl) ?_
              | refine Ls_y (wtdT rfl rfl rfl) rfl rfl (y_load (i := 14) rfl rfl Ty.pl_33 (fun _ e => e ▸ hp) rfl rfl) ?_
            refine Ls_y (wtdT rfl rfl rfl) rfl rfl (y_ne rfl rfl rfl) ?_
            refine Ls_bool 43 rfl (fun hgn => ?_) (fun hgn => ?_)
            all_goals try simp only [decide_eq_true_eq, decide_eq_false_iff_not, beq_iff_eq, bne_iff_ne, ne_eq, beq_eq_false_iff_ne, bne_eq_false_iff_eq, Bool.not_eq_true, Bool.not_eq_false] at hgn
            · refine Ls_y (wtdT rfl rfl rfl) rfl rfl (y_pick_t rfl rfl rfl) ?_
              refine Ls_y (wtd0 rfl) rfl rfl (y_pick_f rfl rfl rfl) ?_
              refine Ls_nil (Th_n (hK10 _ _ ?_))
              refine Wp_cond_t rfl ?_
              refine Wp_exit (Th_e (Ib_miss rfl (Rd_e (i := 13) hp rfl (fun WE hp hf => ?_))))
              have hb : fbad st (cg, ((J.head + kq : Nat) : Int), cf, cd) = true := by unfold fbad; simp only [Bool.or_eq_true]; exact .inr (by simp [hnb, hgn])
              have e : findJ D J = st := by rw [← hst]; exact findF_bad hck hb
              have hF := hF.step hf (by simp)
              rw [hJx, e]
              exact ⟨A, ca, spa, B, cb, spb, hA, hB, hAn, hBn, (hp.picks [0, 1, 2, 3, 4, 5, 6, 7, 8, 9, 10, 11, 12, 13] (by decide)), hG.step hF (hX8 _ _ hAn hBn)⟩
            · refine Ls_y (wtdT rfl rfl rfl) rfl rfl (y_pick_t rfl rfl rfl) ?_
              refine Ls_y (wtd0 rfl) rfl rfl (y_pick_f rfl rfl rfl) ?_
              refine Ls_nil (Th_n (hK10 _ _ ?_))
              refine Wp_cond_f rfl ?_
              refine Wp_skip (Th_n (hK9 _ _ ?_))
              refine Wp_seq fun K11 hK11 => ?_
              refine Wp_region ?_
              have hb : fbad st (cg, ((J.head + kq : Nat) : Int), cf, cd) = false := by unfold fbad; simp only [Bool.or_eq_false_iff]; exact ⟨⟨⟨decide_eq_false hf4, bne_eq_false_iff_eq.2 hbn⟩, beq_eq_false_iff_ne.2 h82⟩, by simp [hgn]⟩
              have hbs := hB.1
              rw [List.length_map, Nat.mul_one] at hbs
              refine Ls_y (wtd0 rfl) rfl rfl (y_fld rfl rfl Ty.fo_60_0) ?_
              first
                | refine Ls_y (wtd0 rfl) rfl rfl (y_load (i := 0) rfl rfl Ty.pl_33 (fun _ e => e ▸ hp) rfl rfl) ?_
                | refine Ls_y (wtd0 rfl) rfl rfl (y_load (i := 1) rfl rfl Ty.pl_33 (fun _ e => e ▸ hp) rfl rfl) ?_
                | refine Ls_y (wtd0 rfl) rfl rfl (y_load (i := 2) rfl rfl Ty.pl_33 (fun _ e => e ▸ hp) rfl rfl) ?_
                | refine Ls_y (wtd0 rfl) rfl rfl (y_load (i := 3) rfl rfl Ty.pl_33 (fun _ e => e ▸ hp) rfl rfl) ?_
                | refine Ls_y (wtd0 rfl) rfl rfl (y_load (i := 4) rfl rfl Ty.pl_33 (fun _ e => e ▸ hp) rfl rfl) ?_
                | refine Ls_y (wtd0 rfl) rfl rfl (y_load (i := 5) rfl rfl Ty.pl_33 (fun _ e => e ▸ hp) rfl rfl) ?_
                | refine Ls_y (wtd0 rfl) rfl rfl (y_load (i := 6) rfl rfl Ty.pl_33 (fun _ e => e ▸ hp) rfl rfl) ?_
                | refine Ls_y (wtd0 rfl) rfl rfl (y_load (i := 7) rfl rfl Ty.pl_33 (fun _ e => e ▸ hp) rfl rfl) ?_
                | refine Ls_y (wtd0 rfl) rfl rfl (y_load (i := 8) rfl rfl Ty.pl_33 (fun _ e => e ▸ hp) rfl rfl) ?_
                | refine Ls_y (wtd0 rfl) rfl rfl (y_load (i := 9) rfl rfl Ty.pl_33 (fun _ e => e ▸ hp) rfl rfl) ?_
                | refine Ls_y (wtd0 rfl) rfl rfl (y_load (i := 10) rfl rfl Ty.pl_33 (fun _ e => e ▸ hp) rfl rfl) ?_
                | refine Ls_y (wtd0 rfl) rfl rfl (y_load (i := 11) rfl rfl Ty.pl_33 (fun _ e => e ▸ hp) rfl rfl) ?_
                | refine Ls_y (wtd0 rfl) rfl rfl (y_load (i := 12) rfl rfl Ty.pl_33 (fun _ e => e ▸ hp) rfl rfl) ?_
                | refine Ls_y (wtd0 rfl) rfl rfl (y_load (i := 13) rfl rfl Ty.pl_33 (fun _ e => e ▸ hp) rfl rfl) ?_
                | refine Ls_y (wtd0 rfl) rfl rfl (y_load (i := 14) rfl rfl Ty.pl_33 (fun _ e => e ▸ hp) rfl rfl) ?_
              refine Ls_a (wtd0 rfl) ?_
              first
                | refine a_store (i := 0) rfl rfl rfl rfl rfl Ty.sz_33 rfl hp rfl (by first | decide | (simp; done) | (simp; omega)) (fun w11 (hp : Hp w11 [(_, Cl [_, _, _, _, _] _), _, _, (_, Cl [_, _, _, _, _, _, _, _, _] _), (_, Cl [_] _), (_, Cl [_] _), (_, Cl [_] _), (_, Cl [_] _), (_, Cl [_] _), (_, Cl [_] _), _, _, _, _, (_, Cl [_, _, _, _] _)]) hf _ => ?_)
                | refine a_store (i := 1) rfl rfl rfl rfl rfl Ty.sz_33 rfl hp rfl (by first | decide | (simp; done) | (simp; omega)) (fun w11 (hp : Hp w11 [(_, Cl [_, _, _, _, _] _), _, _, (_, Cl [_, _, _, _, _, _, _, _, _] _), (_, Cl [_] _), (_, Cl [_] _), (_, Cl [_] _), (_, Cl [_] _), (_, Cl [_] _), (_, Cl [_] _), _, _, _, _, (_, Cl [_, _, _, _] _)]) hf _ => ?_)
                | refine a_store (i := 2) rfl rfl rfl rfl rfl Ty.sz_33 rfl hp rfl (by first | decide | (simp; done) | (simp; omega)) (fun w11 (hp : Hp w11 [(_, Cl [_, _, _, _, _] _), _, _, (_, Cl [_, _, _, _, _, _, _, _, _] _), (_, Cl [_] _), (_, Cl [_] _), (_, Cl [_] _), (_, Cl [_] _), (_, Cl [_] _), (_, Cl [_] _), _, _, _, _, (_, Cl [_, _, _, _] _)]) hf _ => ?_)
                | refine a_store (i := 3) rfl rfl rfl rfl rfl Ty.sz_33 rfl hp rfl (by first | decide | (simp; done) | (simp; omega)) (fun w11 (hp : Hp w11 [(_, Cl [_, _, _, _, _] _), _, _, (_, Cl [_, _, _, _, _, _, _, _, _] _), (_, Cl [_] _), (_, Cl [_] _), (_, Cl [_] _), (_, Cl [_] _), (_, Cl [_] _), (_, Cl [_] _), _, _, _, _, (_, Cl [_, _, _, _] _)]) hf _ => ?_)
                | refine a_store (i := 4) rfl rfl rfl rfl rfl Ty.sz_33 rfl hp rfl (by first | decide | (simp; done) | (simp; omega)) (fun w11 (hp : Hp w11 [(_, Cl [_, _, _, _, _] _), _, _, (_, Cl [_, _, _, _, _, _, _, _, _] _), (_, Cl [_] _), (_, Cl [_] _), (_, Cl [_] _), (_, Cl [_] _), (_, Cl [_] _), (_, Cl [_] _), _, _, _, _, (_, Cl [_, _, _, _] _)]) hf _ => ?_)
                | refine a_store (i := 5) rfl rfl rfl rfl rfl Ty.sz_33 rfl hp rfl (by first | decide | (simp; done) | (simp; omega)) (fun w11 (hp : Hp w11 [(_, Cl [_, _, _, _, _] _), _, _, (_, Cl [_, _, _, _, _, _, _, _, _] _), (_, Cl [_] _), (_, Cl [_] _), (_, Cl [_] _), (_, Cl [_] _), (_, Cl [_] _), (_, Cl [_] _), _, _, _, _, (_, Cl [_, _, _, _] _)]) hf _ => ?_)
                | refine a_store (i := 6) rfl rfl rfl rfl rfl Ty.sz_33 rfl hp rfl (by first | decide | (simp; done) | (simp; omega)) (fun w11 (hp : Hp w11 [(_, Cl [_, _, _, _, _] _), _, _, (_, Cl [_, _, _, _, _, _, _, _, _] _), (_, Cl [_] _), (_, Cl [_] _), (_, Cl [_] _), (_, Cl [_] _), (_, Cl [_] _), (_, Cl [_] _), _, _, _, _, (_, Cl [_, _, _, _] _)]) hf _ => ?_)
                | refine a_store (i := 7) rfl rfl rfl rfl rfl Ty.sz_33 rfl hp rfl (by first | decide | (simp; done) | (simp; omega)) (fun w11 (hp : Hp w11 [(_, Cl [_, _, _, _, _] _), _, _, (_, Cl [_, _, _, _, _, _, _, _, _] _), (_, Cl [_] _), (_, Cl [_] _), (_, Cl [_] _), (_, Cl [_] _), (_, Cl [_] _), (_, Cl [_] _), _, _, _, _, (_, Cl [_, _, _, _] _)]) hf _ => ?_)
                | refine a_store (i := 8) rfl rfl rfl rfl rfl Ty.sz_33 rfl hp rfl (by first | decide | (simp; done) | (simp; omega)) (fun w11 (hp : Hp w11 [(_, Cl [_, _, _, _, _] _), _, _, (_, Cl [_, _, _, _, _, _, _, _, _] _), (_, Cl [_] _), (_, Cl [_] _), (_, Cl [_] _), (_, Cl [_] _), (_, Cl [_] _), (_, Cl [_] _), _, _, _, _, (_, Cl [_, _, _, _] _)]) hf _ => ?_)
                | refine a_store (i := 9) rfl rfl rfl rfl rfl Ty.sz_33 rfl hp rfl (by first | decide | (simp; done) | (simp; omega)) (fun w11 (hp : Hp w11 [(_, Cl [_, _, _, _, _] _), _, _, (_, Cl [_, _, _, _, _, _, _, _, _] _), (_, Cl [_] _), (_, Cl [_] _), (_, Cl [_] _), (_, Cl [_] _), (_, Cl [_] _), (_, Cl [_] _), _, _, _, _, (_, Cl [_, _, _, _] _)]) hf _ => ?_)
                | refine a_store (i := 10) rfl rfl rfl rfl rfl Ty.sz_33 rfl hp rfl (by first | decide | (simp; done) | (simp; omega)) (fun w11 (hp : Hp w11 [(_, Cl [_, _, _, _, _] _), _, _, (_, Cl [_, _, _, _, _, _, _, _, _] _), (_, Cl [_] _), (_, Cl [_] _), (_, Cl [_] _), (_, Cl [_] _), (_, Cl [_] _), (_, Cl [_] _), _, _, _, _, (_, Cl [_, _, _, _] _)]) hf _ => ?_)
                | refine a_store (i := 11) rfl rfl rfl rfl rfl Ty.sz_33 rfl hp rfl (by first | decide | (simp; done) | (simp; omega)) (fun w11 (hp : Hp w11 [(_, Cl [_, _, _, _, _] _), _, _, (_, Cl [_, _, _, _, _, _, _, _, _] _), (_, Cl [_] _), (_, Cl [_] _), (_, Cl [_] _), (_, Cl [_] _), (_, Cl [_] _), (_, Cl [_] _), _, _, _, _, (_, Cl [_, _, _, _] _)]) hf _ => ?_)
                | refine a_store (i := 12) rfl rfl rfl rfl rfl Ty.sz_33 rfl hp rfl (by first | decide | (simp; done) | (simp; omega)) (fun w11 (hp : Hp w11 [(_, Cl [_, _, _, _, _] _), _, _, (_, Cl [_, _, _, _, _, _, _, _, _] _), (_, Cl [_] _), (_, Cl [_] _), (_, Cl [_] _), (_, Cl [_] _), (_, Cl [_] _), (_, Cl [_] _), _, _, _, _, (_, Cl [_, _, _, _] _)]) hf _ => ?_)
                | refine a_store (i := 13) rfl rfl rfl rfl rfl Ty.sz_33 rfl hp rfl (by first | decide | (simp; done) | (simp; omega)) (fun w11 (hp : Hp w11 [(_, Cl [_, _, _, _, _] _), _, _, (_, Cl [_, _, _, _, _, _, _, _, _] _), (_, Cl [_] _), (_, Cl [_] _), (_, Cl [_] _), (_, Cl [_] _), (_, Cl [_] _), (_, Cl [_] _), _, _, _, _, (_, Cl [_, _, _, _] _)]) hf _ => ?_)
                | refine a_store (i := 14) rfl rfl rfl rfl rfl Ty.sz_33 rfl hp rfl (by first | decide | (simp; done) | (simp; omega)) (fun w11 (hp : Hp w11 [(_, Cl [_, _, _, _, _] _), _, _, (_, Cl [_, _, _, _, _, _, _, _, _] _), (_, Cl [_] _), (_, Cl [_] _), (_, Cl [_] _), (_, Cl [_] _), (_, Cl [_] _), (_, Cl [_] _), _, _, _, _, (_, Cl [_, _, _, _] _)]) hf _ => ?_)
              have hF := hF.step hf (by intro y hy; simp only [List.mem_cons, List.not_mem_nil, or_false] at hy; subst hy; first | (exact Or.inr (by omega)) | (exact Or.inl (by simp)))
              refine Ls_nil (Th_n (hK11 _ _ ?_))
              refine Wp_seq fun K12 hK12 => ?_
              refine Wp_region ?_
              first
                | refine Ls_y (wtd0 rfl) rfl rfl (y_load (i := 0) rfl rfl Ty.pl_45 (fun _ e => e ▸ hp) rfl rfl) ?_
                | refine Ls_y (wtd0 rfl) rfl rfl (y_load (i := 1) rfl rfl Ty.pl_45 (fun _ e => e ▸ hp) rfl rfl) ?_
                | refine Ls_y (wtd0 rfl) rfl rfl (y_load (i := 2) rfl rfl Ty.pl_45 (fun _ e => e ▸ hp) rfl rfl) ?_
                | refine Ls_y (wtd0 rfl) rfl rfl (y_load (i := 3) rfl rfl Ty.pl_45 (fun _ e => e ▸ hp) rfl rfl) ?_
                | refine Ls_y (wtd0 rfl) rfl rfl (y_load (i := 4) rfl rfl Ty.pl_45 (fun _ e => e ▸ hp) rfl rfl) ?_
                | refine Ls_y (wtd0 rfl) rfl rfl (y_load (i := 5) rfl rfl Ty.pl_45 (fun _ e => e ▸ hp) rfl rfl) ?_
                | refine Ls_y (wtd0 rfl) rfl rfl (y_load (i := 6) rfl rfl Ty.pl_45 (fun _ e => e ▸ hp) rfl rfl) ?_
                | refine Ls_y (wtd0 rfl) rfl rfl (y_load (i := 7) rfl rfl Ty.pl_45 (fun _ e => e ▸ hp) rfl rfl) ?_
                | refine Ls_y (wtd0 rfl) rfl rfl (y_load (i := 8) rfl rfl Ty.pl_45 (fun _ e => e ▸ hp) rfl rfl) ?_
                | refine Ls_y (wtd0 rfl) rfl rfl (y_load (i := 9) rfl rfl Ty.pl_45 (fun _ e => e ▸ hp) rfl rfl) ?_
                | refine Ls_y (wtd0 rfl) rfl rfl (y_load (i := 10) rfl rfl Ty.pl_45 (fun _ e => e ▸ hp) rfl rfl) ?_
                | refine Ls_y (wtd0 rfl) rfl rfl (y_load (i := 11) rfl rfl Ty.pl_45 (fun _ e => e ▸ hp) rfl rfl) ?_
                | refine Ls_y (wtd0 rfl) rfl rfl (y_load (i := 12) rfl rfl Ty.pl_45 (fun _ e => e ▸ hp) rfl rfl) ?_
                | refine Ls_y (wtd0 rfl) rfl rfl (y_load (i := 13) rfl rfl Ty.pl_45 (fun _ e => e ▸ hp) rfl rfl) ?_
                | refine Ls_y (wtd0 rfl) rfl rfl (y_load (i := 14) rfl rfl Ty.pl_45 (fun _ e => e ▸ hp) rfl rfl) ?_
              refine Ls_y (wtd0 rfl) rfl rfl (y_fld rfl rfl Ty.fo_60_3) ?_
              first
                | refine Ls_y (wtd0 rfl) rfl rfl (y_load (i := 0) rfl rfl Ty.pl_9 (fun _ e => e ▸ hp) rfl rfl) ?_
                | refine Ls_y (wtd0 rfl) rfl rfl (y_load (i := 1) rfl rfl Ty.pl_9 (fun _ e => e ▸ hp) rfl rfl) ?_
                | refine Ls_y (wtd0 rfl) rfl rfl (y_load (i := 2) rfl rfl Ty.pl_9 (fun _ e => e ▸ hp) rfl rfl) ?_
                | refine Ls_y (wtd0 rfl) rfl rfl (y_load (i := 3) rfl rfl Ty.pl_9 (fun _ e => e ▸ hp) rfl rfl) ?_
                | refine Ls_y (wtd0 rfl) rfl rfl (y_load (i := 4) rfl rfl Ty.pl_9 (fun _ e => e ▸ hp) rfl rfl) ?_
                | refine Ls_y (wtd0 rfl) rfl rfl (y_load (i := 5) rfl rfl Ty.pl_9 (fun _ e => e ▸ hp) rfl rfl) ?_
                | refine Ls_y (wtd0 rfl) rfl rfl (y_load (i := 6) rfl rfl Ty.pl_9 (fun _ e => e ▸ hp) rfl rfl) ?_
                | refine Ls_y (wtd0 rfl) rfl rfl (y_load (i := 7) rfl rfl Ty.pl_9 (fun _ e => e ▸ hp) rfl rfl) ?_
                | refine Ls_y (wtd0 rfl) rfl rfl (y_load (i := 8) rfl rfl Ty.pl_9 (fun _ e => e ▸ hp) rfl rfl) ?_
                | refine Ls_y (wtd0 rfl) rfl rfl (y_load (i := 9) rfl rfl Ty.pl_9 (fun _ e => e ▸ hp) rfl rfl) ?_
                | refine Ls_y (wtd0 rfl) rfl rfl (y_load (i := 10) rfl rfl Ty.pl_9 (fun _ e => e ▸ hp) rfl rfl) ?_
                | refine Ls_y (wtd0 rfl) rfl rfl (y_load (i := 11) rfl rfl Ty.pl_9 (fun _ e => e ▸ hp) rfl rfl) ?_
                | refine Ls_y (wtd0 rfl) rfl rfl (y_load (i := 12) rfl rfl Ty.pl_9 (fun _ e => e ▸ hp) rfl rfl) ?_
                | refine Ls_y (wtd0 rfl) rfl rfl (y_load (i := 13) rfl rfl Ty.pl_9 (fun _ e => e ▸ hp) rfl rfl) ?_
                | refine Ls_y (wtd0 rfl) rfl rfl (y_load (i := 14) rfl rfl Ty.pl_9 (fun _ e => e ▸ hp) rfl rfl) ?_
              refine Ls_a (wtd0 rfl) ?_
              refine a_appstr (i := 11) rfl rfl rfl rfl rfl Ty.es_45 Try.underlying9 (by kernel_rfl) Ty.by_5 hB hp rfl (by unfold maxLen; omega) (by omega) (fun B2 cb2 spb2 wap hB2 (hp : Hp wap [(_, Cl [_, _, _, _, _] _), _, _, (_, Cl [_, _, _, _, _, _, _, _, _] _), (_, Cl [_] _), (_, Cl [_] _), (_, Cl [_] _), (_, Cl [_] _), (_, Cl [_] _), (_, Cl [_] _), _, _, _, _, (_, Cl [_, _, _, _] _)]) hf hBnew => ?_)
              have hzz := Nat.le_trans hG.size hF.size
              have hF := hF.step hf (fun y hy => .inl (List.mem_append_right _ hy))
              rw [← List.map_append] at hB2 hp
              have hBn2 : ∀ g, blkOf B2 = some g → w.heap.size ≤ g := fun g hg => by
                rcases hBnew g hg with h | h
                · exact hBn g h
                · exact Nat.le_trans hzz h
              refine Ls_a (wtd0 rfl) ?_
              first
                | refine a_store (i := 0) rfl rfl rfl rfl rfl Ty.sz_45 rfl hp rfl (by first | decide | (simp; done) | (simp; omega)) (fun w12 (hp : Hp w12 [(_, Cl [_, _, _, _, _] _), _, _, (_, Cl [_, _, _, _, _, _, _, _, _] _), (_, Cl [_] _), (_, Cl [_] _), (_, Cl [_] _), (_, Cl [_] _), (_, Cl [_] _), (_, Cl [_] _), _, _, _, _, (_, Cl [_, _, _, _] _)]) hf _ => ?_)
                | refine a_store (i := 1) rfl rfl rfl rfl rfl Ty.sz_45 rfl hp rfl (by first | decide | (simp; done) | (simp; omega)) (fun w12 (hp : Hp w12 [(_, Cl [_, _, _, _, _] _), _, _, (_, Cl [_, _, _, _, _, _, _, _, _] _), (_, Cl [_] _), (_, Cl [_] _), (_, Cl [_] _), (_, Cl [_] _), (_, Cl [_] _), (_, Cl [_] _), _, _, _, _, (_, Cl [_, _, _, _] _)]) hf _ => ?_)
                | refine a_store (i := 2) rfl rfl rfl rfl rfl Ty.sz_45 rfl hp rfl (by first | decide | (simp; done) | (simp; omega)) (fun w12 (hp : Hp w12 [(_, Cl [_, _, _, _, _] _), _, _, (_, Cl [_, _, _, _, _, _, _, _, _] _), (_, Cl [_] _), (_, Cl [_] _), (_, Cl [_] _), (_, Cl [_] _), (_, Cl [_] _), (_, Cl [_] _), _, _, _, _, (_, Cl [_, _, _, _] _)]) hf _ => ?_)
                | refine a_store (i := 3) rfl rfl rfl rfl rfl Ty.sz_45 rfl hp rfl (by first | decide | (simp; done) | (simp; omega)) (fun w12 (hp : Hp w12 [(_, Cl [_, _, _, _, _] _), _, _, (_, Cl [_, _, _, _, _, _, _, _, _] _), (_, Cl [_] _), (_, Cl [_] _), (_, Cl [_] _), (_, Cl [_] _), (_, Cl [_] _), (_, Cl [_] _), _, _, _, _, (_, Cl [_, _, _, _] _)]) hf _ => ?_)
                | refine a_store (i := 4) rfl rfl rfl rfl rfl Ty.sz_45 rfl hp rfl (by first | decide | (simp; done) | (simp; omega)) (fun w12 (hp : Hp w12 [(_, Cl [_, _, _, _, _] _), _, _, (_, Cl [_, _, _, _, _, _, _, _, _] _), (_, Cl [_] _), (_, Cl [_] _), (_, Cl [_] _), (_, Cl [_] _), (_, Cl [_] _), (_, Cl [_] _), _, _, _, _, (_, Cl [_, _, _, _] _)]) hf _ => ?_)
                | refine a_store (i := 5) rfl rfl rfl rfl rfl Ty.sz_45 rfl hp rfl (by first | decide | (simp; done) | (simp; omega)) (fun w12 (hp : Hp w12 [(_, Cl [_, _, _, _, _] _), _, _, (_, Cl [_, _, _, _, _, _, _, _, _] _), (_, Cl [_] _), (_, Cl [_] _), (_, Cl [_] _), (_, Cl [_] _), (_, Cl [_] _), (_, Cl [_] _), _, _, _, _, (_, Cl [_, _, _, _] _)]) hf _ => ?_)
                | refine a_store (i := 6) rfl rfl rfl rfl rfl Ty.sz_45 rfl hp rfl (by first | decide | (simp; done) | (simp; omega)) (fun w12 (hp : Hp w12 [(_, Cl [_, _, _, _, _] _), _, _, (_, Cl [_, _, _, _, _, _, _, _, _] _), (_, Cl [_] _), (_, Cl [_] _), (_, Cl [_] _), (_, Cl [_] _), (_, Cl [_] _), (_, Cl [_] _), _, _, _, _, (_, Cl [_, _, _, _] _)]) hf _ => ?_)
                | refine a_store (i := 7) rfl rfl rfl rfl rfl Ty.sz_45 rfl hp rfl (by first | decide | (simp; done) | (simp; omega)) (fun w12 (hp : Hp w12 [(_, Cl [_, _, _, _, _] _), _, _, (_, Cl [_, _, _, _, _, _, _, _, _] _), (_, Cl [_] _), (_, Cl [_] _), (_, Cl [_] _), (_, Cl [_] _), (_, Cl [_] _), (_, Cl [_] _), _, _, _, _, (_, Cl [_, _, _, _] _)]) hf _ => ?_)
                | refine a_store (i := 8) rfl rfl rfl rfl rfl Ty.sz_45 rfl hp rfl (by first | decide | (simp; done) | (simp; omega)) (fun w12 (hp : Hp w12 [(_, Cl [_, _, _, _, _] _), _, _, (_, Cl [_, _, _, _, _, _, _, _, _] _), (_, Cl [_] _), (_, Cl [_] _), (_, Cl [_] _), (_, Cl [_] _), (_, Cl [_] _), (_, Cl [_] _), _, _, _, _, (_, Cl [_, _, _, _] _)]) hf _ => ?_)
                | refine a_store (i := 9) rfl rfl rfl rfl rfl Ty.sz_45 rfl hp rfl (by first | decide | (simp; done) | (simp; omega)) (fun w12 (hp : Hp w12 [(_, Cl [_, _, _, _, _] _), _, _, (_, Cl [_, _, _, _, _, _, _, _, _] _), (_, Cl [_] _), (_, Cl [_] _), (_, Cl [_] _), (_, Cl [_] _), (_, Cl [_] _), (_, Cl [_] _), _, _, _, _, (_, Cl [_, _, _, _] _)]) hf _ => ?_)
                | refine a_store (i := 10) rfl rfl rfl rfl rfl Ty.sz_45 rfl hp rfl (by first | decide | (simp; done) | (simp; omega)) (fun w12 (hp : Hp w12 [(_, Cl [_, _, _, _, _] _), _, _, (_, Cl [_, _, _, _, _, _, _, _, _] _), (_, Cl [_] _), (_, Cl [_] _), (_, Cl [_] _), (_, Cl [_] _), (_, Cl [_] _), (_, Cl [_] _), _, _, _, _, (_, Cl [_, _, _, _] _)]) hf _ => ?_)
                | refine a_store (i := 11) rfl rfl rfl rfl rfl Ty.sz_45 rfl hp rfl (by first | decide | (simp; done) | (simp; omega)) (fun w12 (hp : Hp w12 [(_, Cl [_, _, _, _, _] _), _, _, (_, Cl [_, _, _, _, _, _, _, _, _] _), (_, Cl [_] _), (_, Cl [_] _), (_, Cl [_] _), (_, Cl [_] _), (_, Cl [_] _), (_, Cl [_] _), _, _, _, _, (_, Cl [_, _, _, _] _)]) hf _ => ?_)
                | refine a_store (i := 12) rfl rfl rfl rfl rfl Ty.sz_45 rfl hp rfl (by first | decide | (simp; done) | (simp; omega)) (fun w12 (hp : Hp w12 [(_, Cl [_, _, _, _, _] _), _, _, (_, Cl [_, _, _, _, _, _, _, _, _] _), (_, Cl [_] _), (_, Cl [_] _), (_, Cl [_] _), (_, Cl [_] _), (_, Cl [_] _), (_, Cl [_] _), _, _, _, _, (_, Cl [_, _, _, _] _)]) hf _ => ?_)
                | refine a_store (i := 13) rfl rfl rfl rfl rfl Ty.sz_45 rfl hp rfl (by first | decide | (simp; done) | (simp; omega)) (fun w12 (hp : Hp w12 [(_, Cl [_, _, _, _, _] _), _, _, (_, Cl [_, _, _, _, _, _, _, _, _] _), (_, Cl [_] _), (_, Cl [_] _), (_, Cl [_] _), (_, Cl [_] _), (_, Cl [_] _), (_, Cl [_] _), _, _, _, _, (_, Cl [_, _, _, _] _)]) hf _ => ?_)
                | refine a_store (i := 14) rfl rfl rfl rfl rfl Ty.sz_45 rfl hp rfl (by first | decide | (simp; done) | (simp; omega)) (fun w12 (hp : Hp w12 [(_, Cl [_, _, _, _, _] _), _, _, (_, Cl [_, _, _, _, _, _, _, _, _] _), (_, Cl [_] _), (_, Cl [_] _), (_, Cl [_] _), (_, Cl [_] _), (_, Cl [_] _), (_, Cl [_] _), _, _, _, _, (_, Cl [_, _, _, _] _)]) hf _ => ?_)
              have hF := hF.step hf (by intro y hy; simp only [List.mem_cons, List.not_mem_nil, or_false] at hy; subst hy; first | (exact Or.inr (by omega)) | (exact Or.inl (by simp)))
              refine Ls_nil (Th_n (hK12 _ _ ?_))
              refine Wp_seq fun K13 hK13 => ?_
              refine Wp_region ?_
              first
                | refine Ls_y (wtd0 rfl) rfl rfl (y_load (i := 0) rfl rfl Ty.pl_3 (fun _ e => e ▸ hp) rfl rfl) ?_
                | refine Ls_y (wtd0 rfl) rfl rfl (y_load (i := 1) rfl rfl Ty.pl_3 (fun _ e => e ▸ hp) rfl rfl) ?_
                | refine Ls_y (wtd0 rfl) rfl rfl (y_load (i := 2) rfl rfl Ty.pl_3 (fun _ e => e ▸ hp) rfl rfl) ?_
                | refine Ls_y (wtd0 rfl) rfl rfl (y_load (i := 3) rfl rfl Ty.pl_3 (fun _ e => e ▸ hp) rfl rfl) ?_
                | refine Ls_y (wtd0 rfl) rfl rfl (y_load (i := 4) rfl rfl Ty.pl_3 (fun _ e => e ▸ hp) rfl rfl) ?_
                | refine Ls_y (wtd0 rfl) rfl rfl (y_load (i := 5) rfl rfl Ty.pl_3 (fun _ e => e ▸ hp) rfl rfl) ?_
                | refine Ls_y (wtd0 rfl) rfl rfl (y_load (i := 6) rfl rfl Ty.pl_3 (fun _ e => e ▸ hp) rfl rfl) ?_
                | refine Ls_y (wtd0 rfl) rfl rfl (y_load (i := 7) rfl rfl Ty.pl_3 (fun _ e => e ▸ hp) rfl rfl) ?_
                | refine Ls_y (wtd0 rfl) rfl rfl (y_load (i := 8) rfl rfl Ty.pl_3 (fun _ e => e ▸ hp) rfl rfl) ?_
                | refine Ls_y (wtd0 rfl) rfl rfl (y_load (i := 9) rfl rfl Ty.pl_3 (fun _ e => e ▸ hp) rfl rfl) ?_
                | refine Ls_y (wtd0 rfl) rfl rfl (y_load (i := 10) rfl rfl Ty.pl_3 (fun _ e => e ▸ hp) rfl rfl) ?_
                | refine Ls_y (wtd0 rfl) rfl rfl (y_load (i := 11) rfl rfl Ty.pl_3 (fun _ e => e ▸ hp) rfl rfl) ?_
                | refine Ls_y (wtd0 rfl) rfl rfl (y_load (i := 12) rfl rfl Ty.pl_3 (fun _ e => e ▸ hp) rfl rfl) ?_
                | refine Ls_y (wtd0 rfl) rfl rfl (y_load (i := 13) rfl rfl Ty.pl_3 (fun _ e => e ▸ hp) rfl rfl) ?_
                | refine Ls_y (wtd0 rfl) rfl rfl (y_load (i := 14) rfl rfl Ty.pl_3 (fun _ e => e ▸ hp) rfl rfl) ?_
              first
                | refine Ls_y (wtd0 rfl) rfl rfl (y_add rfl rfl rfl (w_succ (by omega))) ?_
                | refine Ls_y (wtd0 rfl) rfl rfl (y_add rfl rfl rfl (wf_i64 (by omega))) ?_
                | refine Ls_y (wtd0 rfl) rfl rfl (y_add rfl rfl rfl rfl) ?_
              refine Ls_a (wtd0 rfl) ?_
              first
                | refine a_store (i := 0) rfl rfl rfl rfl rfl Ty.sz_3 rfl hp rfl (by first | decide | (simp; done) | (simp; omega)) (fun w13 (hp : Hp w13 [(_, Cl [_, _, _, _, _] _), _, _, (_, Cl [_, _, _, _, _, _, _, _, _] _), (_, Cl [_] _), (_, Cl [_] _), (_, Cl [_] _), (_, Cl [_] _), (_, Cl [_] _), (_, Cl [_] _), _, _, _, _, (_, Cl [_, _, _, _] _)]) hf _ => ?_)
                | refine a_store (i := 1) rfl rfl rfl rfl rfl Ty.sz_3 rfl hp rfl (by first | decide | (simp; done) | (simp; omega)) (fun w13 (hp : Hp w13 [(_, Cl [_, _, _, _, _] _), _, _, (_, Cl [_, _, _, _, _, _, _, _, _] _), (_, Cl [_] _), (_, Cl [_] _), (_, Cl [_] _), (_, Cl [_] _), (_, Cl [_] _), (_, Cl [_] _), _, _, _, _, (_, Cl [_, _, _, _] _)]) hf _ => ?_)
                | refine a_store (i := 2) rfl rfl rfl rfl rfl Ty.sz_3 rfl hp rfl (by first | decide | (simp; done) | (simp; omega)) (fun w13 (hp : Hp w13 [(_, Cl [_, _, _, _, _] _), _, _, (_, Cl [_, _, _, _, _, _, _, _, _] _), (_, Cl [_] _), (_, Cl [_] _), (_, Cl [_] _), (_, Cl [_] _), (_, Cl [_] _), (_, Cl [_] _), _, _, _, _, (_, Cl [_, _, _, _] _)]) hf _ => ?_)
                | refine a_store (i := 3) rfl rfl rfl rfl rfl Ty.sz_3 rfl hp rfl (by first | decide | (simp; done) | (simp; omega)) (fun w13 (hp : Hp w13 [(_, Cl [_, _, _, _, _] _), _, _, (_, Cl [_, _, _, _, _, _, _, _, _] _), (_, Cl [_] _), (_, Cl [_] _), (_, Cl [_] _), (_, Cl [_] _), (_, Cl [_] _), (_, Cl [_] _), _, _, _, _, (_, Cl [_, _, _, _] _)]) hf _ => ?_)
                | refine a_store (i := 4) rfl rfl rfl rfl rfl Ty.sz_3 rfl hp rfl (by first | decide | (simp; done) | (simp; omega)) (fun w13 (hp : Hp w13 [(_, Cl [_, _, _, _, _] _), _, _, (_, Cl [_, _, _, _, _, _, _, _, _] _), (_, Cl [_] _), (_, Cl [_] _), (_, Cl [_] _), (_, Cl [_] _), (_, Cl [_] _), (_, Cl [_] _), _, _, _, _, (_, Cl [_, _, _, _] _)]) hf _ => ?_)
                | refine a_store (i := 5) rfl rfl rfl rfl rfl Ty.sz_3 rfl hp rfl (by first | decide | (simp; done) | (simp; omega)) (fun w13 (hp : Hp w13 [(_, Cl [_, _, _, _, _] _), _, _, (_, Cl [_, _, _, _, _, _, _, _, _] _), (_, Cl [_] _), (_, Cl [_] _), (_, Cl [_] _), (_, Cl [_] _), (_, Cl [_] _), (_, Cl [_] _), _, _, _, _, (_, Cl [_, _, _, _] _)]) hf _ => ?_)
                | refine a_store (i := 6) rfl rfl rfl rfl rfl Ty.sz_3 rfl hp rfl (by first | decide | (simp; done) | (simp; omega)) (fun w13 (hp : Hp w13 [(_, Cl [_, _, _, _, _] _), _, _, (_, Cl [_, _, _, _, _, _, _, _, _] _), (_, Cl [_] _), (_, Cl [_] _), (_, Cl [_] _), (_, Cl [_] _), (_, Cl [_] _), (_, Cl [_] _), _, _, _, _, (_, Cl [_, _, _, _] _)]) hf _ => ?_)
                | refine a_store (i := 7) rfl rfl rfl rfl rfl Ty.sz_3 rfl hp rfl (by first | decide | (simp; done) | (simp; omega)) (fun w13 (hp : Hp w13 [(_, Cl [_, _, _, _, _] _), _, _, (_, Cl [_, _, _, _, _, _, _, _, _] _), (_, Cl [_] _), (_, Cl [_] _), (_, Cl [_] _), (_, Cl [_] _), (_, Cl [_] _), (_, Cl [_] _), _, _, _, _, (_, Cl [_, _, _, _] _)]) hf _ => ?_)
                | refine a_store (i := 8) rfl rfl rfl rfl rfl Ty.sz_3 rfl hp rfl (by first | decide | (simp; done) | (simp; omega)) (fun w13 (hp : Hp w13 [(_, Cl [_, _, _, _, _] _), _, _, (_, Cl [_, _, _, _, _, _, _, _, _] _), (_, Cl [_] _), (_, Cl [_] _), (_, Cl [_] _), (_, Cl [_] _), (_, Cl [_] _), (_, Cl [_] _), _, _, _, _, (_, Cl [_, _, _, _] _)]) hf _ => ?_)
                | refine a_store (i := 9) rfl rfl rfl rfl rfl Ty.sz_3 rfl hp rfl (by first | decide | (simp; done) | (simp; omega)) (fun w13 (hp : Hp w13 [(_, Cl [_, _, _, _, _] _), _, _, (_, Cl [_, _, _, _, _, _, _, _, _] _), (_, Cl [_] _), (_, Cl [_] _), (_, Cl [_] _), (_, Cl [_] _), (_, Cl [_] _), (_, Cl [_] _), _, _, _, _, (_, Cl [_, _, _, _] _)]) hf _ => ?_)
                | refine a_store (i := 10) rfl rfl rfl rfl rfl Ty.sz_3 rfl hp rfl (by first | decide | (simp; done) | (simp; omega)) (fun w13 (hp : Hp w13 [(_, Cl [_, _, _, _, _] _), _, _, (_, Cl [_, _, _, _, _, _, _, _, _] _), (_, Cl [_] _), (_, Cl [_] _), (_, Cl [_] _), (_, Cl [_] _), (_, Cl [_] _), (_, Cl [_] _), _, _, _, _, (_, Cl [_, _, _, _] _)]) hf _ => ?_)
                | refine a_store (i := 11) rfl rfl rfl rfl rfl Ty.sz_3 rfl hp rfl (by first | decide | (simp; done) | (simp; omega)) (fun w13 (hp : Hp w13 [(_, Cl [_, _, _, _, _] _), _, _, (_, Cl [_, _, _, _, _, _, _, _, _] _), (_, Cl [_] _), (_, Cl [_] _), (_, Cl [_] _), (_, Cl [_] _), (_, Cl [_] _), (_, Cl [_] _), _, _, _, _, (_, Cl [_, _, _, _] _)]) hf _ => ?_)
                | refine a_store (i := 12) rfl rfl rfl rfl rfl Ty.sz_3 rfl hp rfl (by first | decide | (simp; done) | (simp; omega)) (fun w13 (hp : Hp w13 [(_, Cl [_, _, _, _, _] _), _, _, (_, Cl [_, _, _, _, _, _, _, _, _] _), (_, Cl [_] _), (_, Cl [_] _), (_, Cl [_] _), (_, Cl [_] _), (_, Cl [_] _), (_, Cl [_] _), _, _, _, _, (_, Cl [_, _, _, _] _)]) hf _ => ?_)
                | refine a_store (i := 13) rfl rfl rfl rfl rfl Ty.sz_3 rfl hp rfl (by first | decide | (simp; done) | (simp; omega)) (fun w13 (hp : Hp w13 [(_, Cl [_, _, _, _, _] _), _, _, (_, Cl [_, _, _, _, _, _, _, _, _] _), (_, Cl [_] _), (_, Cl [_] _), (_, Cl [_] _), (_, Cl [_] _), (_, Cl [_] _), (_, Cl [_] _), _, _, _, _, (_, Cl [_, _, _, _] _)]) hf _ => ?_)
                | refine a_store (i := 14) rfl rfl rfl rfl rfl Ty.sz_3 rfl hp rfl (by first | decide | (simp; done) | (simp; omega)) (fun w13 (hp : Hp w13 [(_, Cl [_, _, _, _, _] _), _, _, (_, Cl [_, _, _, _, _, _, _, _, _] _), (_, Cl [_] _), (_, Cl [_] _), (_, Cl [_] _), (_, Cl [_] _), (_, Cl [_] _), (_, Cl [_] _), _, _, _, _, (_, Cl [_, _, _, _] _)]) hf _ => ?_)
              have hF := hF.step hf (by intro y hy; simp only [List.mem_cons, List.not_mem_nil, or_false] at hy; subst hy; first | (exact Or.inr (by omega)) | (exact Or.inl (by simp)))
              refine Ls_nil (Th_n (hK13 _ _ ?_))
              refine Wp_seq fun K14 hK14 => ?_
              refine Wp_region ?_
              refine Ls_y (wtd0 rfl) rfl rfl (y_fld rfl rfl Ty.fo_60_2) ?_
              first
                | refine Ls_y (wtd0 rfl) rfl rfl (y_load (i := 0) rfl rfl Ty.pl_5 (fun _ e => e ▸ hp) rfl rfl) ?_
                | refine Ls_y (wtd0 rfl) rfl rfl (y_load (i := 1) rfl rfl Ty.pl_5 (fun _ e => e ▸ hp) rfl rfl) ?_
                | refine Ls_y (wtd0 rfl) rfl rfl (y_load (i := 2) rfl rfl Ty.pl_5 (fun _ e => e ▸ hp) rfl rfl) ?_
                | refine Ls_y (wtd0 rfl) rfl rfl (y_load (i := 3) rfl rfl Ty.pl_5 (fun _ e => e ▸ hp) rfl rfl) ?_
                | refine Ls_y (wtd0 rfl) rfl rfl (y_load (i := 4) rfl rfl Ty.pl_5 (fun _ e => e ▸ hp) rfl rfl) ?_
                | refine Ls_y (wtd0 rfl) rfl rfl (y_load (i := 5) rfl rfl Ty.pl_5 (fun _ e => e ▸ hp) rfl rfl) ?_
                | refine Ls_y (wtd0 rfl) rfl rfl (y_load (i := 6) rfl rfl Ty.pl_5 (fun _ e => e ▸ hp) rfl rfl) ?_
                | refine Ls_y (wtd0 rfl) rfl rfl (y_load (i := 7) rfl rfl Ty.pl_5 (fun _ e => e ▸ hp) rfl rfl) ?_
                | refine Ls_y (wtd0 rfl) rfl rfl (y_load (i := 8) rfl rfl Ty.pl_5 (fun _ e => e ▸ hp) rfl rfl) ?_
                | refine Ls_y (wtd0 rfl) rfl rfl (y_load (i := 9) rfl rfl Ty.pl_5 (fun _ e => e ▸ hp) rfl rfl) ?_
                | refine Ls_y (wtd0 rfl) rfl rfl (y_load (i := 10) rfl rfl Ty.pl_5 (fun _ e => e ▸ hp) rfl rfl) ?_
                | refine Ls_y (wtd0 rfl) rfl rfl (y_load (i := 11) rfl rfl Ty.pl_5 (fun _ e => e ▸ hp) rfl rfl) ?_
                | refine Ls_y (wtd0 rfl) rfl rfl (y_load (i := 12) rfl rfl Ty.pl_5 (fun _ e => e ▸ hp) rfl rfl) ?_
                | refine Ls_y (wtd0 rfl) rfl rfl (y_load (i := 13) rfl rfl Ty.pl_5 (fun _ e => e ▸ hp) rfl rfl) ?_
                | refine Ls_y (wtd0 rfl) rfl rfl (y_load (i := 14) rfl rfl Ty.pl_5 (fun _ e => e ▸ hp) rfl rfl) ?_
              refine Ls_y (wtd0 rfl) rfl rfl (y_bits rfl rfl rfl (by simp) rfl) ?_
              refine Ls_y (wtd0 rfl) rfl rfl (y_ne rfl rfl rfl) ?_
              refine Ls_bool 57 rfl (fun hlast => ?_) (fun hlast => ?_)
              all_goals try simp only [decide_eq_true_eq, decide_eq_false_iff_not, beq_iff_eq, bne_iff_ne, ne_eq, beq_eq_false_iff_ne, bne_eq_false_iff_eq, Bool.not_eq_true, Bool.not_eq_false] at hlast
              · refine Ls_nil (Th_n (hK14 _ _ ?_))
                refine Wp_cond_t rfl ?_
                refine Wp_seq fun K15 hK15 => ?_
                refine Wp_region ?_
                first
                  | refine Ls_y (wtd0 rfl) rfl rfl (y_load (i := 0) rfl rfl Ty.pl_22 (fun _ e => e ▸ hp) rfl rfl) ?_
                  | refine Ls_y (wtd0 rfl) rfl rfl (y_load (i := 1) rfl rfl Ty.pl_22 (fun _ e => e ▸ hp) rfl rfl) ?_
                  | refine Ls_y (wtd0 rfl) rfl rfl (y_load (i := 2) rfl rfl Ty.pl_22 (fun _ e => e ▸ hp) rfl rfl) ?_
                  | refine Ls_y (wtd0 rfl) rfl rfl (y_load (i := 3) rfl rfl Ty.pl_22 (fun _ e => e ▸ hp) rfl rfl) ?_
                  | refine Ls_y (wtd0 rfl) rfl rfl (y_load (i := 4) rfl rfl Ty.pl_22 (fun _ e => e ▸ hp) rfl rfl) ?_
                  | refine Ls_y (wtd0 rfl) rfl rfl (y_load (i := 5) rfl rfl Ty.pl_22 (fun _ e => e ▸ hp) rfl rfl) ?_
                  | refine Ls_y (wtd0 rfl) rfl rfl (y_load (i := 6) rfl rfl Ty.pl_22 (fun _ e => e ▸ hp) rfl rfl) ?_
                  | refine Ls_y (wtd0 rfl) rfl rfl (y_load (i := 7) rfl rfl Ty.pl_22 (fun _ e => e ▸ hp) rfl rfl) ?_
                  | refine Ls_y (wtd0 rfl) rfl rfl (y_load (i := 8) rfl rfl Ty.pl_22 (fun _ e => e ▸ hp) rfl rfl) ?_
                  | refine Ls_y (wtd0 rfl) rfl rfl (y_load (i := 9) rfl rfl Ty.pl_22 (fun _ e => e ▸ hp) rfl rfl) ?_
                  | refine Ls_y (wtd0 rfl) rfl rfl (y_load (i := 10) rfl rfl Ty.pl_22 (fun _ e => e ▸ hp) rfl rfl) ?_
                  | refine Ls_y (wtd0 rfl) rfl rfl (y_load (i := 11) rfl rfl Ty.pl_22 (fun _ e => e ▸ hp) rfl rfl) ?_
                  | refine Ls_y (wtd0 rfl) rfl rfl (y_load (i := 12) rfl rfl Ty.pl_22 (fun _ e => e ▸ hp) rfl rfl) ?_
                  | refine Ls_y (wtd0 rfl) rfl rfl (y_load (i := 13) rfl rfl Ty.pl_22 (fun _ e => e ▸ hp) rfl rfl) ?_
                  | refine Ls_y (wtd0 rfl) rfl rfl (y_load (i := 14) rfl rfl Ty.pl_22 (fun _ e => e ▸ hp) rfl rfl) ?_
                first
                  | refine Ls_y (wtd0 rfl) rfl rfl (y_load (i := 0) rfl rfl Ty.pl_45 (fun _ e => e ▸ hp) rfl rfl) ?_
                  | refine Ls_y (wtd0 rfl) rfl rfl (y_load (i := 1) rfl rfl Ty.pl_45 (fun _ e => e ▸ hp) rfl rfl) ?_
                  | refine Ls_y (wtd0 rfl) rfl rfl (y_load (i := 2) rfl rfl Ty.pl_45 (fun _ e => e ▸ hp) rfl rfl) ?_
                  | refine Ls_y (wtd0 rfl) rfl rfl (y_load (i := 3) rfl rfl Ty.pl_45 (fun _ e => e ▸ hp) rfl rfl) ?_
                  | refine Ls_y (wtd0 rfl) rfl rfl (y_load (i := 4) rfl rfl Ty.pl_45 (fun _ e => e ▸ hp) rfl rfl) ?_
                  | refine Ls_y (wtd0 rfl) rfl rfl (y_load (i := 5) rfl rfl Ty.pl_45 (fun _ e => e ▸ hp) rfl rfl) ?_
                  | refine Ls_y (wtd0 rfl) rfl rfl (y_load (i := 6) rfl rfl Ty.pl_45 (fun _ e => e ▸ hp) rfl rfl) ?_
                  | refine Ls_y (wtd0 rfl) rfl rfl (y_load (i := 7) rfl rfl Ty.pl_45 (fun _ e => e ▸ hp) rfl rfl) ?_
                  | refine Ls_y (wtd0 rfl) rfl rfl (y_load (i := 8) rfl rfl Ty.pl_45 (fun _ e => e ▸ hp) rfl rfl) ?_
                  | refine Ls_y (wtd0 rfl) rfl rfl (y_load (i := 9) rfl rfl Ty.pl_45 (fun _ e => e ▸ hp) rfl rfl) ?_
                  | refine Ls_y (wtd0 rfl) rfl rfl (y_load (i := 10) rfl rfl Ty.pl_45 (fun _ e => e ▸ hp) rfl rfl) ?_
                  | refine Ls_y (wtd0 rfl) rfl rfl (y_load (i := 11) rfl rfl Ty.pl_45 (fun _ e => e ▸ hp) rfl rfl) ?_
                  | refine Ls_y (wtd0 rfl) rfl rfl (y_load (i := 12) rfl rfl Ty.pl_45 (fun _ e => e ▸ hp) rfl rfl) ?_
                  | refine Ls_y (wtd0 rfl) rfl rfl (y_load (i := 13) rfl rfl Ty.pl_45 (fun _ e => e ▸ hp) rfl rfl) ?_
                  | refine Ls_y (wtd0 rfl) rfl rfl (y_load (i := 14) rfl rfl Ty.pl_45 (fun _ e => e ▸ hp) rfl rfl) ?_
                refine Ls_y (wtd0 rfl) rfl rfl (y_cvO (i := 11) rfl rfl Try.underlying45 Try.underlying5 Try.underlying9 hB2 hp rfl) ?_
                refine Ls_a (wtd0 rfl) ?_
                refine a_bsl rfl rfl rfl rfl rfl Ty.es_22 Ty.zc_9 rfl (by decide) (by simp [Value.cells]) hp (fun g20 wbs (hp : Hp wbs [(_, Cl [_, _, _, _, _] _), _, _, (_, Cl [_, _, _, _, _, _, _, _, _] _), (_, Cl [_] _), (_, Cl [_] _), (_, Cl [_] _), (_, Cl [_] _), (_, Cl [_] _), (_, Cl [_] _), _, _, _, _, (_, Cl [_, _, _, _] _), (_, Cl [_] _)]) hf hg20 => ?_)
                have hF := hF.step0 hf
                refine Ls_a (wtd0 rfl) ?_
                refine a_append (i := 10) rfl rfl rfl rfl rfl rfl Ty.es_22 Ty.zc_9 rfl Ty.by_9 (by decide) hA hp rfl rfl (src_of (range_all (i := 15) hp rfl)) (by simp) (by simp [Value.oneCell']) (by unfold maxLen; omega) (by omega) (fun A2 ca2 spa2 wap2 hA2 (hp : Hp wap2 [(_, Cl [_, _, _, _, _] _), _, _, (_, Cl [_, _, _, _, _, _, _, _, _] _), (_, Cl [_] _), (_, Cl [_] _), (_, Cl [_] _), (_, Cl [_] _), (_, Cl [_] _), (_, Cl [_] _), _, _, _, _, (_, Cl [_, _, _, _] _), (_, Cl [_] _)]) hf hAnew => ?_)
                have hzz := Nat.le_trans hG.size hF.size
                have hF := hF.step hf (fun y hy => .inl (List.mem_append_left _ (List.mem_append_right _ hy)))
                have hmv : st.l.map sv ++ [sv (st.text ++ cd)] = (st.l ++ [st.text ++ cd]).map sv := by simp
                rw [hmv] at hA2 hp
                have hAn2 : ∀ g, blkOf A2 = some g → w.heap.size ≤ g := fun g hg => by
                  rcases hAnew g hg with h | h
                  · exact hAn g h
                  · exact Nat.le_trans hzz h
                refine Ls_a (wtd0 rfl) ?_
                first
                  | refine a_store (i := 0) rfl rfl rfl rfl rfl Ty.sz_22 rfl hp rfl (by first | decide | (simp; done) | (simp; omega)) (fun w14 (hp : Hp w14 [(_, Cl [_, _, _, _, _] _), _, _, (_, Cl [_, _, _, _, _, _, _, _, _] _), (_, Cl [_] _), (_, Cl [_] _), (_, Cl [_] _), (_, Cl [_] _), (_, Cl [_] _), (_, Cl [_] _), _, _, _, _, (_, Cl [_, _, _, _] _), (_, Cl [_] _)]) hf _ => ?_)
                  | refine a_store (i := 1) rfl rfl rfl rfl rfl Ty.sz_22 rfl hp rfl (by first | decide | (simp; done) | (simp; omega)) (fun w14 (hp : Hp w14 [(_, Cl [_, _, _, _, _] _), _, _, (_, Cl [_, _, _, _, _, _, _, _, _] _), (_, Cl [_] _), (_, Cl [_] _), (_, Cl [_] _), (_, Cl [_] _), (_, Cl [_] _), (_, Cl [_] _), _, _, _, _, (_, Cl [_, _, _, _] _), (_, Cl [_] _)]) hf _ => ?_)
                  | refine a_store (i := 2) rfl rfl rfl rfl rfl Ty.sz_22 rfl hp rfl (by first | decide | (simp; done) | (simp; omega)) (fun w14 (hp : Hp w14 [(_, Cl [_, _, _, _, _] _), _, _, (_, Cl [_, _, _, _, _, _, _, _, _] _), (_, Cl [_] _), (_, Cl [_] _), (_, Cl [_] _), (_, Cl [_] _), (_, Cl [_] _), (_, Cl [_] _), _, _, _, _, (_, Cl [_, _, _, _] _), (_, Cl [_] _)]) hf _ => ?_)
                  | refine a_store (i := 3) rfl rfl rfl rfl rfl Ty.sz_22 rfl hp rfl (by first | decide | (simp; done) | (simp; omega)) (fun w14 (hp : Hp w14 [(_, Cl [_, _, _, _, _] _), _, _, (_, Cl [_, _, _, _, _, _, _, _, _] _), (_, Cl [_] _), (_, Cl [_] _), (_, Cl [_] _), (_, Cl [_] _), (_, Cl [_] _), (_, Cl [_] _), _, _, _, _, (_, Cl [_, _, _, _] _), (_, Cl [_] _)]) hf _ => ?_)
                  | refine a_store (i := 4) rfl rfl rfl rfl rfl Ty.sz_22 rfl hp rfl (by first | decide | (simp; done) | (simp; omega)) (fun w14 (hp : Hp w14 [(_, Cl [_, _, _, _, _] _), _, _, (_, Cl [_, _, _, _, _, _, _, _, _] _), (_, Cl [_] _), (_, Cl [_] _), (_, Cl [_] _), (_, Cl [_] _), (_, Cl [_] _), (_, Cl [_] _), _, _, _, _, (_, Cl [_, _, _, _] _), (_, Cl [_] _)]) hf _ => ?_)
                  | refine a_store (i := 5) rfl rfl rfl rfl rfl Ty.sz_22 rfl hp rfl (by first | decide | (simp; done) | (simp; omega)) (fun w14 (hp : Hp w14 [(_, Cl [_, _, _, _, _] _), _, _, (_, Cl [_, _, _, _, _, _, _, _, _] _), (_, Cl [_] _), (_, Cl [_] _), (_, Cl [_] _), (_, Cl [_] _), (_, Cl [_] _), (_, Cl [_] _), _, _, _, _, (_, Cl [_, _, _, _] _), (_, Cl [_] _)]) hf _ => ?_)
                  | refine a_store (i := 6) rfl rfl rfl rfl rfl Ty.sz_22 rfl hp rfl (by first | decide | (simp; done) | (simp; omega)) (fun w14 (hp : Hp w14 [(_, Cl [_, _, _, _, _] _), _, _, (_, Cl [_, _, _, _, _, _, _, _, _] _), (_, Cl [_] _), (_, Cl [_] _), (_, Cl [_] _), (_, Cl [_] _), (_, Cl [_] _), (_, Cl [_] _), _, _, _, _, (_, Cl [_, _, _, _] _), (_, Cl [_] _)]) hf _ => ?_)
                  | refine a_store (i := 7) rfl rfl rfl rfl rfl Ty.sz_22 rfl hp rfl (by first | decide | (simp; done) | (simp; omega)) (fun w14 (hp : Hp w14 [(_, Cl [_, _, _, _, _] _), _, _, (_, Cl [_, _, _, _, _, _, _, _, _] _), (_, Cl [_] _), (_, Cl [_] _), (_, Cl [_] _), (_, Cl [_] _), (_, Cl [_] _), (_, Cl [_] _), _, _, _, _, (_, Cl [_, _, _, _] _), (_, Cl [_] _)]) hf _ => ?_)
                  | refine a_store (i := 8) rfl rfl rfl rfl rfl Ty.sz_22 rfl hp rfl (by first | decide | (simp; done) | (simp; omega)) (fun w14 (hp : Hp w14 [(_, Cl [_, _, _, _, _] _), _, _, (_, Cl [_, _, _, _, _, _, _, _, _] _), (_, Cl [_] _), (_, Cl [_] _), (_, Cl [_] _), (_, Cl [_] _), (_, Cl [_] _), (_, Cl [_] _), _, _, _, _, (_, Cl [_, _, _, _] _), (_, Cl [_] _)]) hf _ => ?_)
                  | refine a_store (i := 9) rfl rfl rfl rfl rfl Ty.sz_22 rfl hp rfl (by first | decide | (simp; done) | (simp; omega)) (fun w14 (hp : Hp w14 [(_, Cl [_, _, _, _, _] _), _, _, (_, Cl [_, _, _, _, _, _, _, _, _] _), (_, Cl [_] _), (_, Cl [_] _), (_, Cl [_] _), (_, Cl [_] _), (_, Cl [_] _), (_, Cl [_] _), _, _, _, _, (_, Cl [_, _, _, _] _), (_, Cl [_] _)]) hf _ => ?_)
                  | refine a_store (i := 10) rfl rfl rfl rfl rfl Ty.sz_22 rfl hp rfl (by first | decide | (simp; done) | (simp; omega)) (fun w14 (hp : Hp w14 [(_, Cl [_, _, _, _, _] _), _, _, (_, Cl [_, _, _, _, _, _, _, _, _] _), (_, Cl [_] _), (_, Cl [_] _), (_, Cl [_] _), (_, Cl [_] _), (_, Cl [_] _), (_, Cl [_] _), _, _, _, _, (_, Cl [_, _, _, _] _), (_, Cl [_] _)]) hf _ => ?_)
                  | refine a_store (i := 11) rfl rfl rfl rfl rfl Ty.sz_22 rfl hp rfl (by first | decide | (simp; done) | (simp; omega)) (fun w14 (hp : Hp w14 [(_, Cl [_, _, _, _, _] _), _, _, (_, Cl [_, _, _, _, _, _, _, _, _] _), (_, Cl [_] _), (_, Cl [_] _), (_, Cl [_] _), (_, Cl [_] _), (_, Cl [_] _), (_, Cl [_] _), _, _, _, _, (_, Cl [_, _, _, _] _), (_, Cl [_] _)]) hf _ => ?_)
                  | refine a_store (i := 12) rfl rfl rfl rfl rfl Ty.sz_22 rfl hp rfl (by first | decide | (simp; done) | (simp; omega)) (fun w14 (hp : Hp w14 [(_, Cl [_, _, _, _, _] _), _, _, (_, Cl [_, _, _, _, _, _, _, _, _] _), (_, Cl [_] _), (_, Cl [_] _), (_, Cl [_] _), (_, Cl [_] _), (_, Cl [_] _), (_, Cl [_] _), _, _, _, _, (_, Cl [_, _, _, _] _), (_, Cl [_] _)]) hf _ => ?_)
                  | refine a_store (i := 13) rfl rfl rfl rfl rfl Ty.sz_22 rfl hp rfl (by first | decide | (simp; done) | (simp; omega)) (fun w14 (hp : Hp w14 [(_, Cl [_, _, _, _, _] _), _, _, (_, Cl [_, _, _, _, _, _, _, _, _] _), (_, Cl [_] _), (_, Cl [_] _), (_, Cl [_] _), (_, Cl [_] _), (_, Cl [_] _), (_, Cl [_] _), _, _, _, _, (_, Cl [_, _, _, _] _), (_, Cl [_] _)]) hf _ => ?_)
                  | refine a_store (i := 14) rfl rfl rfl rfl rfl Ty.sz_22 rfl hp rfl (by first | decide | (simp; done) | (simp; omega)) (fun w14 (hp : Hp w14 [(_, Cl [_, _, _, _, _] _), _, _, (_, Cl [_, _, _, _, _, _, _, _, _] _), (_, Cl [_] _), (_, Cl [_] _), (_, Cl [_] _), (_, Cl [_] _), (_, Cl [_] _), (_, Cl [_] _), _, _, _, _, (_, Cl [_, _, _, _] _), (_, Cl [_] _)]) hf _ => ?_)
                  | refine a_store (i := 15) rfl rfl rfl rfl rfl Ty.sz_22 rfl hp rfl (by first | decide | (simp; done) | (simp; omega)) (fun w14 (hp : Hp w14 [(_, Cl [_, _, _, _, _] _), _, _, (_, Cl [_, _, _, _, _, _, _, _, _] _), (_, Cl [_] _), (_, Cl [_] _), (_, Cl [_] _), (_, Cl [_] _), (_, Cl [_] _), (_, Cl [_] _), _, _, _, _, (_, Cl [_, _, _, _] _), (_, Cl [_] _)]) hf _ => ?_)
                have hF := hF.step hf (by intro y hy; simp only [List.mem_cons, List.not_mem_nil, or_false] at hy; subst hy; first | (exact Or.inr (by omega)) | (exact Or.inl (by simp)))
                refine Ls_nil (Th_n (hK15 _ _ ?_))
                refine Wp_seq fun K16 hK16 => ?_
                refine Wp_region ?_
                refine Ls_a (wtd0 rfl) ?_
                first
                  | refine a_store (i := 0) rfl rfl rfl rfl rfl Ty.sz_45 rfl hp rfl (by first | decide | (simp; done) | (simp; omega)) (fun w15 (hp : Hp w15 [(_, Cl [_, _, _, _, _] _), _, _, (_, Cl [_, _, _, _, _, _, _, _, _] _), (_, Cl [_] _), (_, Cl [_] _), (_, Cl [_] _), (_, Cl [_] _), (_, Cl [_] _), (_, Cl [_] _), _, _, _, _, (_, Cl [_, _, _, _] _), (_, Cl [_] _)]) hf _ => ?_)
                  | refine a_store (i := 1) rfl rfl rfl rfl rfl Ty.sz_45 rfl hp rfl (by first | decide | (simp; done) | (simp; omega)) (fun w15 (hp : Hp w15 [(_, Cl [_, _, _, _, _] _), _, _, (_, Cl [_, _, _, _, _, _, _, _, _] _), (_, Cl [_] _), (_, Cl [_] _), (_, Cl [_] _), (_, Cl [_] _), (_, Cl [_] _), (_, Cl [_] _), _, _, _, _, (_, Cl [_, _, _, _] _), (_, Cl [_] _)]) hf _ => ?_)
                  | refine a_store (i := 2) rfl rfl rfl rfl rfl Ty.sz_45 rfl hp rfl (by first | decide | (simp; done) | (simp; omega)) (fun w15 (hp : Hp w15 [(_, Cl [_, _, _, _, _] _), _, _, (_, Cl [_, _, _, _, _, _, _, _, _] _), (_, Cl [_] _), (_, Cl [_] _), (_, Cl [_] _), (_, Cl [_] _), (_, Cl [_] _), (_, Cl [_] _), _, _, _, _, (_, Cl [_, _, _, _] _), (_, Cl [_] _)]) hf _ => ?_)
                  | refine a_store (i := 3) rfl rfl rfl rfl rfl Ty.sz_45 rfl hp rfl (by first | decide | (simp; done) | (simp; omega)) (fun w15 (hp : Hp w15 [(_, Cl [_, _, _, _, _] _), _, _, (_, Cl [_, _, _, _, _, _, _, _, _] _), (_, Cl [_] _), (_, Cl [_] _), (_, Cl [_] _), (_, Cl [_] _), (_, Cl [_] _), (_, Cl [_] _), _, _, _, _, (_, Cl [_, _, _, _] _), (_, Cl [_] _)]) hf _ => ?_)
                  | refine a_store (i := 4) rfl rfl rfl rfl rfl Ty.sz_45 rfl hp rfl (by first | decide | (simp; done) | (simp; omega)) (fun w15 (hp : Hp w15 [(_, Cl [_, _, _, _, _] _), _, _, (_, Cl [_, _, _, _, _, _, _, _, _] _), (_, Cl [_] _), (_, Cl [_] _), (_, Cl [_] _), (_, Cl [_] _), (_, Cl [_] _), (_, Cl [_] _), _, _, _, _, (_, Cl [_, _, _, _] _), (_, Cl [_] _)]) hf _ => ?_)
                  | refine a_store (i := 5) rfl rfl rfl rfl rfl Ty.sz_45 rfl hp rfl (by first | decide | (simp; done) | (simp; omega)) (fun w15 (hp : Hp w15 [(_, Cl [_, _, _, _, _] _), _, _, (_, Cl [_, _, _, _, _, _, _, _, _] _), (_, Cl [_] _), (_, Cl [_] _), (_, Cl [_] _), (_, Cl [_] _), (_, Cl [_] _), (_, Cl [_] _), _, _, _, _, (_, Cl [_, _, _, _] _), (_, Cl [_] _)]) hf _ => ?_)
                  | refine a_store (i := 6) rfl rfl rfl rfl rfl Ty.sz_45 rfl hp rfl (by first | decide | (simp; done) | (simp; omega)) (fun w15 (hp : Hp w15 [(_, Cl [_, _, _, _, _] _), _, _, (_, Cl [_, _, _, _, _, _, _, _, _] _), (_, Cl [_] _), (_, Cl [_] _), (_, Cl [_] _), (_, Cl [_] _), (_, Cl [_] _), (_, Cl [_] _), _, _, _, _, (_, Cl [_, _, _, _] _), (_, Cl [_] _)]) hf _ => ?_)
                  | refine a_store (i := 7) rfl rfl rfl rfl rfl Ty.sz_45 rfl hp rfl (by first | decide | (simp; done) | (simp; omega)) (fun w15 (hp : Hp w15 [(_, Cl [_, _, _, _, _] _), _, _, (_, Cl [_, _, _, _, _, _, _, _, _] _), (_, Cl [_] _), (_, Cl [_] _), (_, Cl [_] _), (_, Cl [_] _), (_, Cl [_] _), (_, Cl [_] _), _, _, _, _, (_, Cl [_, _, _, _] _), (_, Cl [_] _)]) hf _ => ?_)
                  | refine a_store (i := 8) rfl rfl rfl rfl rfl Ty.sz_45 rfl hp rfl (by first | decide | (simp; done) | (simp; omega)) (fun w15 (hp : Hp w15 [(_, Cl [_, _, _, _, _] _), _, _, (_, Cl [_, _, _, _, _, _, _, _, _] _), (_, Cl [_] _), (_, Cl [_] _), (_, Cl [_] _), (_, Cl [_] _), (_, Cl [_] _), (_, Cl [_] _), _, _, _, _, (_, Cl [_, _, _, _] _), (_, Cl [_] _)]) hf _ => ?_)
                  | refine a_store (i := 9) rfl rfl rfl rfl rfl Ty.sz_45 rfl hp rfl (by first | decide | (simp; done) | (simp; omega)) (fun w15 (hp : Hp w15 [(_, Cl [_, _, _, _, _] _), _, _, (_, Cl [_, _, _, _, _, _, _, _, _] _), (_, Cl [_] _), (_, Cl [_] _), (_, Cl [_] _), (_, Cl [_] _), (_, Cl [_] _), (_, Cl [_] _), _, _, _, _, (_, Cl [_, _, _, _] _), (_, Cl [_] _)]) hf _ => ?_)
                  | refine a_store (i := 10) rfl rfl rfl rfl rfl Ty.sz_45 rfl hp rfl (by first | decide | (simp; done) | (simp; omega)) (fun w15 (hp : Hp w15 [(_, Cl [_, _, _, _, _] _), _, _, (_, Cl [_, _, _, _, _, _, _, _, _] _), (_, Cl [_] _), (_, Cl [_] _), (_, Cl [_] _), (_, Cl [_] _), (_, Cl [_] _), (_, Cl [_] _), _, _, _, _, (_, Cl [_, _, _, _] _), (_, Cl [_] _)]) hf _ => ?_)
                  | refine a_store (i := 11) rfl rfl rfl rfl rfl Ty.sz_45 rfl hp rfl (by first | decide | (simp; done) | (simp; omega)) (fun w15 (hp : Hp w15 [(_, Cl [_, _, _, _, _] _), _, _, (_, Cl [_, _, _, _, _, _, _, _, _] _), (_, Cl [_] _), (_, Cl [_] _), (_, Cl [_] _), (_, Cl [_] _), (_, Cl [_] _), (_, Cl [_] _), _, _, _, _, (_, Cl [_, _, _, _] _), (_, Cl [_] _)]) hf _ => ?_)
                  | refine a_store (i := 12) rfl rfl rfl rfl rfl Ty.sz_45 rfl hp rfl (by first | decide | (simp; done) | (simp; omega)) (fun w15 (hp : Hp w15 [(_, Cl [_, _, _, _, _] _), _, _, (_, Cl [_, _, _, _, _, _, _, _, _] _), (_, Cl [_] _), (_, Cl [_] _), (_, Cl [_] _), (_, Cl [_] _), (_, Cl [_] _), (_, Cl [_] _), _, _, _, _, (_, Cl [_, _, _, _] _), (_, Cl [_] _)]) hf _ => ?_)
                  | refine a_store (i := 13) rfl rfl rfl rfl rfl Ty.sz_45 rfl hp rfl (by first | decide | (simp; done) | (simp; omega)) (fun w15 (hp : Hp w15 [(_, Cl [_, _, _, _, _] _), _, _, (_, Cl [_, _, _, _, _, _, _, _, _] _), (_, Cl [_] _), (_, Cl [_] _), (_, Cl [_] _), (_, Cl [_] _), (_, Cl [_] _), (_, Cl [_] _), _, _, _, _, (_, Cl [_, _, _, _] _), (_, Cl [_] _)]) hf _ => ?_)
                  | refine a_store (i := 14) rfl rfl rfl rfl rfl Ty.sz_45 rfl hp rfl (by first | decide | (simp; done) | (simp; omega)) (fun w15 (hp : Hp w15 [(_, Cl [_, _, _, _, _] _), _, _, (_, Cl [_, _, _, _, _, _, _, _, _] _), (_, Cl [_] _), (_, Cl [_] _), (_, Cl [_] _), (_, Cl [_] _), (_, Cl [_] _), (_, Cl [_] _), _, _, _, _, (_, Cl [_, _, _, _] _), (_, Cl [_] _)]) hf _ => ?_)
                  | refine a_store (i := 15) rfl rfl rfl rfl rfl Ty.sz_45 rfl hp rfl (by first | decide | (simp; done) | (simp; omega)) (fun w15 (hp : Hp w15 [(_, Cl [_, _, _, _, _] _), _, _, (_, Cl [_, _, _, _, _, _, _, _, _] _), (_, Cl [_] _), (_, Cl [_] _), (_, Cl [_] _), (_, Cl [_] _), (_, Cl [_] _), (_, Cl [_] _), _, _, _, _, (_, Cl [_, _, _, _] _), (_, Cl [_] _)]) hf _ => ?_)
                have hF := hF.step hf (by intro y hy; simp only [List.mem_cons, List.not_mem_nil, or_false] at hy; subst hy; first | (exact Or.inr (by omega)) | (exact Or.inl (by simp)))
                refine Ls_a (wtd0 rfl) ?_
                first
                  | refine a_store (i := 0) rfl rfl rfl rfl rfl Ty.sz_3 rfl hp rfl (by first | decide | (simp; done) | (simp; omega)) (fun w16 (hp : Hp w16 [(_, Cl [_, _, _, _, _] _), _, _, (_, Cl [_, _, _, _, _, _, _, _, _] _), (_, Cl [_] _), (_, Cl [_] _), (_, Cl [_] _), (_, Cl [_] _), (_, Cl [_] _), (_, Cl [_] _), _, _, _, _, (_, Cl [_, _, _, _] _), (_, Cl [_] _)]) hf _ => ?_)
                  | refine a_store (i := 1) rfl rfl rfl rfl rfl Ty.sz_3 rfl hp rfl (by first | decide | (simp; done) | (simp; omega)) (fun w16 (hp : Hp w16 [(_, Cl [_, _, _, _, _] _), _, _, (_, Cl [_, _, _, _, _, _, _, _, _] _), (_, Cl [_] _), (_, Cl [_] _), (_, Cl [_] _), (_, Cl [_] _), (_, Cl [_] _), (_, Cl [_] _), _, _, _, _, (_, Cl [_, _, _, _] _), (_, Cl [_] _)]) hf _ => ?_)
                  | refine a_store (i := 2) rfl rfl rfl rfl rfl Ty.sz_3 rfl hp rfl (by first | decide | (simp; done) | (simp; omega)) (fun w16 (hp : Hp w16 [(_, Cl [_, _, _, _, _] _), _, _, (_, Cl [_, _, _, _, _, _, _, _, _] _), (_, Cl [_] _), (_, Cl [_] _), (_, Cl [_] _), (_, Cl [_] _), (_, Cl [_] _), (_, Cl [_] _), _, _, _, _, (_, Cl [_, _, _, _] _), (_, Cl [_] _)]) hf _ => ?_)
                  | refine a_store (i := 3) rfl rfl rfl rfl rfl Ty.sz_3 rfl hp rfl (by first | decide | (simp; done) | (simp; omega)) (fun w16 (hp : Hp w16 [(_, Cl [_, _, _, _, _] _), _, _, (_, Cl [_, _, _, _, _, _, _, _, _] _), (_, Cl [_] _), (_, Cl [_] _), (_, Cl [_] _), (_, Cl [_] _), (_, Cl [_] _), (_, Cl [_] _), _, _, _, _, (_, Cl [_, _, _, _] _), (_, Cl [_] _)]) hf _ => ?_)
                  | refine a_store (i := 4) rfl rfl rfl rfl rfl Ty.sz_3 rfl hp rfl (by first | decide | (simp; done) | (simp; omega)) (fun w16 (hp : Hp w16 [(_, Cl [_, _, _, _, _] _), _, _, (_, Cl [_, _, _, _, _, _, _, _, _] _), (_, Cl [_] _), (_, Cl [_] _), (_, Cl [_] _), (_, Cl [_] _), (_, Cl [_] _), (_, Cl [_] _), _, _, _, _, (_, Cl [_, _, _, _] _), (_, Cl [_] _)]) hf _ => ?_)
                  | refine a_store (i := 5) rfl rfl rfl rfl rfl Ty.sz_3 rfl hp rfl (by first | decide | (simp; done) | (simp; omega)) (fun w16 (hp : Hp w16 [(_, Cl [_, _, _, _, _] _), _, _, (_, Cl [_, _, _, _, _, _, _, _, _] _), (_, Cl [_] _), (_, Cl [_] _), (_, Cl [_] _), (_, Cl [_] _), (_, Cl [_] _), (_, Cl [_] _), _, _, _, _, (_, Cl [_, _, _, _] _), (_, Cl [_] _)]) hf _ => ?_)
                  | refine a_store (i := 6) rfl rfl rfl rfl rfl Ty.sz_3 rfl hp rfl (by first | decide | (simp; done) | (simp; omega)) (fun w16 (hp : Hp w16 [(_, Cl [_, _, _, _, _] _), _, _, (_, Cl [_, _, _, _, _, _, _, _, _] _), (_, Cl [_] _), (_, Cl [_] _), (_, Cl [_] _), (_, Cl [_] _), (_, Cl [_] _), (_, Cl [_] _), _, _, _, _, (_, Cl [_, _, _, _] _), (_, Cl [_] _)]) hf _ => ?_)
                  | refine a_store (i := 7) rfl rfl rfl rfl rfl Ty.sz_3 rfl hp rfl (by first | decide | (simp; done) | (simp; omega)) (fun w16 (hp : Hp w16 [(_, Cl [_, _, _, _, _] _), _, _, (_, Cl [_, _, _, _, _, _, _, _, _] _), (_, Cl [_] _), (_, Cl [_] _), (_, Cl [_] _), (_, Cl [_] _), (_, Cl [_] _), (_, Cl [_] _), _, _, _, _, (_, Cl [_, _, _, _] _), (_, Cl [_] _)]) hf _ => ?_)
                  | refine a_store (i := 8) rfl rfl rfl rfl rfl Ty.sz_3 rfl hp rfl (by first | decide | (simp; done) | (simp; omega)) (fun w16 (hp : Hp w16 [(_, Cl [_, _, _, _, _] _), _, _, (_, Cl [_, _, _, _, _, _, _, _, _] _), (_, Cl [_] _), (_, Cl [_] _), (_, Cl [_] _), (_, Cl [_] _), (_, Cl [_] _), (_, Cl [_] _), _, _, _, _, (_, Cl [_, _, _, _] _), (_, Cl [_] _)]) hf _ => ?_)
                  | refine a_store (i := 9) rfl rfl rfl rfl rfl Ty.sz_3 rfl hp rfl (by first | decide | (simp; done) | (simp; omega)) (fun w16 (hp : Hp w16 [(_, Cl [_, _, _, _, _] _), _, _, (_, Cl [_, _, _, _, _, _, _, _, _] _), (_, Cl [_] _), (_, Cl [_] _), (_, Cl [_] _), (_, Cl [_] _), (_, Cl [_] _), (_, Cl [_] _), _, _, _, _, (_, Cl [_, _, _, _] _), (_, Cl [_] _)]) hf _ => ?_)
                  | refine a_store (i := 10) rfl rfl rfl rfl rfl Ty.sz_3 rfl hp rfl (by first | decide | (simp; done) | (simp; omega)) (fun w16 (hp : Hp w16 [(_, Cl [_, _, _, _, _] _), _, _, (_, Cl [_, _, _, _, _, _, _, _, _] _), (_, Cl [_] _), (_, Cl [_] _), (_, Cl [_] _), (_, Cl [_] _), (_, Cl [_] _), (_, Cl [_] _), _, _, _, _, (_, Cl [_, _, _, _] _), (_, Cl [_] _)]) hf _ => ?_)
                  | refine a_store (i := 11) rfl rfl rfl rfl rfl Ty.sz_3 rfl hp rfl (by first | decide | (simp; done) | (simp; omega)) (fun w16 (hp : Hp w16 [(_, Cl [_, _, _, _, _] _), _, _, (_, Cl [_, _, _, _, _, _, _, _, _] _), (_, Cl [_] _), (_, Cl [_] _), (_, Cl [_] _), (_, Cl [_] _), (_, Cl [_] _), (_, Cl [_] _), _, _, _, _, (_, Cl [_, _, _, _] _), (_, Cl [_] _)]) hf _ => ?_)
                  | refine a_store (i := 12) rfl rfl rfl rfl rfl Ty.sz_3 rfl hp rfl (by first | decide | (simp; done) | (simp; omega)) (fun w16 (hp : Hp w16 [(_, Cl [_, _, _, _, _] _), _, _, (_, Cl [_, _, _, _, _, _, _, _, _] _), (_, Cl [_] _), (_, Cl [_] _), (_, Cl [_] _), (_, Cl [_] _), (_, Cl [_] _), (_, Cl [_] _), _, _, _, _, (_, Cl [_, _, _, _] _), (_, Cl [_] _)]) hf _ => ?_)
                  | refine a_store (i := 13) rfl rfl rfl rfl rfl Ty.sz_3 rfl hp rfl (by first | decide | (simp; done) | (simp; omega)) (fun w16 (hp : Hp w16 [(_, Cl [_, _, _, _, _] _), _, _, (_, Cl [_, _, _, _, _, _, _, _, _] _), (_, Cl [_] _), (_, Cl [_] _), (_, Cl [_] _), (_, Cl [_] _), (_, Cl [_] _), (_, Cl [_] _), _, _, _, _, (_, Cl [_, _, _, _] _), (_, Cl [_] _)]) hf _ => ?_)
                  | refine a_store (i := 14) rfl rfl rfl rfl rfl Ty.sz_3 rfl hp rfl (by first | decide | (simp; done) | (simp; omega)) (fun w16 (hp : Hp w16 [(_, Cl [_, _, _, _, _] _), _, _, (_, Cl [_, _, _, _, _, _, _, _, _] _), (_, Cl [_] _), (_, Cl [_] _), (_, Cl [_] _), (_, Cl [_] _), (_, Cl [_] _), (_, Cl [_] _), _, _, _, _, (_, Cl [_, _, _, _] _), (_, Cl [_] _)]) hf _ => ?_)
                  | refine a_store (i := 15) rfl rfl rfl rfl rfl Ty.sz_3 rfl hp rfl (by first | decide | (simp; done) | (simp; omega)) (fun w16 (hp : Hp w16 [(_, Cl [_, _, _, _, _] _), _, _, (_, Cl [_, _, _, _, _, _, _, _, _] _), (_, Cl [_] _), (_, Cl [_] _), (_, Cl [_] _), (_, Cl [_] _), (_, Cl [_] _), (_, Cl [_] _), _, _, _, _, (_, Cl [_, _, _, _] _), (_, Cl [_] _)]) hf _ => ?_)
                have hF := hF.step hf (by intro y hy; simp only [List.mem_cons, List.not_mem_nil, or_false] at hy; subst hy; first | (exact Or.inr (by omega)) | (exact Or.inl (by simp)))
                refine Ls_nil (Th_n (hK16 _ _ ?_))
                refine Wp_region ?_
                first
                  | refine Ls_y (wtd0 rfl) rfl rfl (y_load (i := 0) rfl rfl Ty.pl_29 (fun _ e => e ▸ hp) rfl rfl) ?_
                  | refine Ls_y (wtd0 rfl) rfl rfl (y_load (i := 1) rfl rfl Ty.pl_29 (fun _ e => e ▸ hp) rfl rfl) ?_
                  | refine Ls_y (wtd0 rfl) rfl rfl (y_load (i := 2) rfl rfl Ty.pl_29 (fun _ e => e ▸ hp) rfl rfl) ?_
                  | refine Ls_y (wtd0 rfl) rfl rfl (y_load (i := 3) rfl rfl Ty.pl_29 (fun _ e => e ▸ hp) rfl rfl) ?_
                  | refine Ls_y (wtd0 rfl) rfl rfl (y_load (i := 4) rfl rfl Ty.pl_29 (fun _ e => e ▸ hp) rfl rfl) ?_
                  | refine Ls_y (wtd0 rfl) rfl rfl (y_load (i := 5) rfl rfl Ty.pl_29 (fun _ e => e ▸ hp) rfl rfl) ?_
                  | refine Ls_y (wtd0 rfl) rfl rfl (y_load (i := 6) rfl rfl Ty.pl_29 (fun _ e => e ▸ hp) rfl rfl) ?_
                  | refine Ls_y (wtd0 rfl) rfl rfl (y_load (i := 7) rfl rfl Ty.pl_29 (fun _ e => e ▸ hp) rfl rfl) ?_
                  | refine Ls_y (wtd0 rfl) rfl rfl (y_load (i := 8) rfl rfl Ty.pl_29 (fun _ e => e ▸ hp) rfl rfl) ?_
                  | refine Ls_y (wtd0 rfl) rfl rfl (y_load (i := 9) rfl rfl Ty.pl_29 (fun _ e => e ▸ hp) rfl rfl) ?_
                  | refine Ls_y (wtd0 rfl) rfl rfl (y_load (i := 10) rfl rfl Ty.pl_29 (fun _ e => e ▸ hp) rfl rfl) ?_
                  | refine Ls_y (wtd0 rfl) rfl rfl (y_load (i := 11) rfl rfl Ty.pl_29 (fun _ e => e ▸ hp) rfl rfl) ?_
                  | refine Ls_y (wtd0 rfl) rfl rfl (y_load (i := 12) rfl rfl Ty.pl_29 (fun _ e => e ▸ hp) rfl rfl) ?_
                  | refine Ls_y (wtd0 rfl) rfl rfl (y_load (i := 13) rfl rfl Ty.pl_29 (fun _ e => e ▸ hp) rfl rfl) ?_
                  | refine Ls_y (wtd0 rfl) rfl rfl (y_load (i := 14) rfl rfl Ty.pl_29 (fun _ e => e ▸ hp) rfl rfl) ?_
                  | refine Ls_y (wtd0 rfl) rfl rfl (y_load (i := 15) rfl rfl Ty.pl_29 (fun _ e => e ▸ hp) rfl rfl) ?_
                refine Ls_y (wtd0 rfl) rfl rfl (y_fld rfl rfl Ty.fo_60_1) ?_
                first
                  | refine Ls_y (wtd0 rfl) rfl rfl (y_load (i := 0) rfl rfl Ty.pl_32 (fun _ e => e ▸ hp) rfl rfl) ?_
                  | refine Ls_y (wtd0 rfl) rfl rfl (y_load (i := 1) rfl rfl Ty.pl_32 (fun _ e => e ▸ hp) rfl rfl) ?_
                  | refine Ls_y (wtd0 rfl) rfl rfl (y_load (i := 2) rfl rfl Ty.pl_32 (fun _ e => e ▸ hp) rfl rfl) ?_
                  | refine Ls_y (wtd0 rfl) rfl rfl (y_load (i := 3) rfl rfl Ty.pl_32 (fun _ e => e ▸ hp) rfl rfl) ?_
                  | refine Ls_y (wtd0 rfl) rfl rfl (y_load (i := 4) rfl rfl Ty.pl_32 (fun _ e => e ▸ hp) rfl rfl) ?_
                  | refine Ls_y (wtd0 rfl) rfl rfl (y_load (i := 5) rfl rfl Ty.pl_32 (fun _ e => e ▸ hp) rfl rfl) ?_
                  | refine Ls_y (wtd0 rfl) rfl rfl (y_load (i := 6) rfl rfl Ty.pl_32 (fun _ e => e ▸ hp) rfl rfl) ?_
                  | refine Ls_y (wtd0 rfl) rfl rfl (y_load (i := 7) rfl rfl Ty.pl_32 (fun _ e => e ▸ hp) rfl rfl) ?_
                  | refine Ls_y (wtd0 rfl) rfl rfl (y_load (i := 8) rfl rfl Ty.pl_32 (fun _ e => e ▸ hp) rfl rfl) ?_
                  | refine Ls_y (wtd0 rfl) rfl rfl (y_load (i := 9) rfl rfl Ty.pl_32 (fun _ e => e ▸ hp) rfl rfl) ?_
                  | refine Ls_y (wtd0 rfl) rfl rfl (y_load (i := 10) rfl rfl Ty.pl_32 (fun _ e => e ▸ hp) rfl rfl) ?_
                  | refine Ls_y (wtd0 rfl) rfl rfl (y_load (i := 11) rfl rfl Ty.pl_32 (fun _ e => e ▸ hp) rfl rfl) ?_
                  | refine Ls_y (wtd0 rfl) rfl rfl (y_load (i := 12) rfl rfl Ty.pl_32 (fun _ e => e ▸ hp) rfl rfl) ?_
                  | refine Ls_y (wtd0 rfl) rfl rfl (y_load (i := 13) rfl rfl Ty.pl_32 (fun _ e => e ▸ hp) rfl rfl) ?_
                  | refine Ls_y (wtd0 rfl) rfl rfl (y_load (i := 14) rfl rfl Ty.pl_32 (fun _ e => e ▸ hp) rfl rfl) ?_
                  | refine Ls_y (wtd0 rfl) rfl rfl (y_load (i := 15) rfl rfl Ty.pl_32 (fun _ e => e ▸ hp) rfl rfl) ?_
                first
                  | refine Ls_y (wtd0 rfl) rfl rfl (y_add rfl rfl rfl (wf_u32 (by omega))) ?_
                  | refine Ls_y (wtd0 rfl) rfl rfl (y_add rfl rfl rfl rfl) ?_
                refine Ls_y (wtd0 rfl) rfl rfl (y_nil rfl rfl) ?_
                refine Ls_y (wtd0 rfl) rfl rfl (y_fld rfl rfl Ty.fo_53_6) ?_
                refine Ls_a (wtd0 rfl) ?_
                first
                  | refine a_store (i := 0) rfl rfl rfl rfl rfl Ty.sz_32 rfl hp rfl (by first | decide | (simp; done) | (simp; omega)) (fun w17 (hp : Hp w17 [(_, Cl [_, _, _, _, _] _), _, _, (_, Cl [_, _, _, _, _, _, _, _, _] _), (_, Cl [_] _), (_, Cl [_] _), (_, Cl [_] _), (_, Cl [_] _), (_, Cl [_] _), (_, Cl [_] _), _, _, _, _, (_, Cl [_, _, _, _] _), (_, Cl [_] _)]) hf _ => ?_)
                  | refine a_store (i := 1) rfl rfl rfl rfl rfl Ty.sz_32 rfl hp rfl (by first | decide | (simp; done) | (simp; omega)) (fun w17 (hp : Hp w17 [(_, Cl [_, _, _, _, _] _), _, _, (_, Cl [_, _, _, _, _, _, _, _, _] _), (_, Cl [_] _), (_, Cl [_] _), (_, Cl [_] _), (_, Cl [_] _), (_, Cl [_] _), (_, Cl [_] _), _, _, _, _, (_, Cl [_, _, _, _] _), (_, Cl [_] _)]) hf _ => ?_)
                  | refine a_store (i := 2) rfl rfl rfl rfl rfl Ty.sz_32 rfl hp rfl (by first | decide | (simp; done) | (simp; omega)) (fun w17 (hp : Hp w17 [(_, Cl [_, _, _, _, _] _), _, _, (_, Cl [_, _, _, _, _, _, _, _, _] _), (_, Cl [_] _), (_, Cl [_] _), (_, Cl [_] _), (_, Cl [_] _), (_, Cl [_] _), (_, Cl [_] _), _, _, _, _, (_, Cl [_, _, _, _] _), (_, Cl [_] _)]) hf _ => ?_)
                  | refine a_store (i := 3) rfl rfl rfl rfl rfl Ty.sz_32 rfl hp rfl (by first | decide | (simp; done) | (simp; omega)) (fun w17 (hp : Hp w17 [(_, Cl [_, _, _, _, _] _), _, _, (_, Cl [_, _, _, _, _, _, _, _, _] _), (_, Cl [_] _), (_, Cl [_] _), (_, Cl [_] _), (_, Cl [_] _), (_, Cl [_] _), (_, Cl [_] _), _, _, _, _, (_, Cl [_, _, _, _] _), (_, Cl [_] _)]) hf _ => ?_)
                  | refine a_store (i := 4) rfl rfl rfl rfl rfl Ty.sz_32 rfl hp rfl (by first | decide | (simp; done) | (simp; omega)) (fun w17 (hp : Hp w17 [(_, Cl [_, _, _, _, _] _), _, _, (_, Cl [_, _, _, _, _, _, _, _, _] _), (_, Cl [_] _), (_, Cl [_] _), (_, Cl [_] _), (_, Cl [_] _), (_, Cl [_] _), (_, Cl [_] _), _, _, _, _, (_, Cl [_, _, _, _] _), (_, Cl [_] _)]) hf _ => ?_)
                  | refine a_store (i := 5) rfl rfl rfl rfl rfl Ty.sz_32 rfl hp rfl (by first | decide | (simp; done) | (simp; omega)) (fun w17 (hp : Hp w17 [(_, Cl [_, _, _, _, _] _), _, _, (_, Cl [_, _, _, _, _, _, _, _, _] _), (_, Cl [_] _), (_, Cl [_] _), (_, Cl [_] _), (_, Cl [_] _), (_, Cl [_] _), (_, Cl [_] _), _, _, _, _, (_, Cl [_, _, _, _] _), (_, Cl [_] _)]) hf _ => ?_)
                  | refine a_store (i := 6) rfl rfl rfl rfl rfl Ty.sz_32 rfl hp rfl (by first | decide | (simp; done) | (simp; omega)) (fun w17 (hp : Hp w17 [(_, Cl [_, _, _, _, _] _), _, _, (_, Cl [_, _, _, _, _, _, _, _, _] _), (_, Cl [_] _), (_, Cl [_] _), (_, Cl [_] _), (_, Cl [_] _), (_, Cl [_] _), (_, Cl [_] _), _, _, _, _, (_, Cl [_, _, _, _] _), (_, Cl [_] _)]) hf _ => ?_)
                  | refine a_store (i := 7) rfl rfl rfl rfl rfl Ty.sz_32 rfl hp rfl (by first | decide | (simp; done) | (simp; omega)) (fun w17 (hp : Hp w17 [(_, Cl [_, _, _, _, _] _), _, _, (_, Cl [_, _, _, _, _, _, _, _, _] _), (_, Cl [_] _), (_, Cl [_] _), (_, Cl [_] _), (_, Cl [_] _), (_, Cl [_] _), (_, Cl [_] _), _, _, _, _, (_, Cl [_, _, _, _] _), (_, Cl [_] _)]) hf _ => ?_)
                  | refine a_store (i := 8) rfl rfl rfl rfl rfl Ty.sz_32 rfl hp rfl (by first | decide | (simp; done) | (simp; omega)) (fun w17 (hp : Hp w17 [(_, Cl [_, _, _, _, _] _), _, _, (_, Cl [_, _, _, _, _, _, _, _, _] _), (_, Cl [_] _), (_, Cl [_] _), (_, Cl [_] _), (_, Cl [_] _), (_, Cl [_] _), (_, Cl [_] _), _, _, _, _, (_, Cl [_, _, _, _] _), (_, Cl [_] _)]) hf _ => ?_)
                  | refine a_store (i := 9) rfl rfl rfl rfl rfl Ty.sz_32 rfl hp rfl (by first | decide | (simp; done) | (simp; omega)) (fun w17 (hp : Hp w17 [(_, Cl [_, _, _, _, _] _), _, _, (_, Cl [_, _, _, _, _, _, _, _, _] _), (_, Cl [_] _), (_, Cl [_] _), (_, Cl [_] _), (_, Cl [_] _), (_, Cl [_] _), (_, Cl [_] _), _, _, _, _, (_, Cl [_, _, _, _] _), (_, Cl [_] _)]) hf _ => ?_)
                  | refine a_store (i := 10) rfl rfl rfl rfl rfl Ty.sz_32 rfl hp rfl (by first | decide | (simp; done) | (simp; omega)) (fun w17 (hp : Hp w17 [(_, Cl [_, _, _, _, _] _), _, _, (_, Cl [_, _, _, _, _, _, _, _, _] _), (_, Cl [_] _), (_, Cl [_] _), (_, Cl [_] _), (_, Cl [_] _), (_, Cl [_] _), (_, Cl [_] _), _, _, _, _, (_, Cl [_, _, _, _] _), (_, Cl [_] _)]) hf _ => ?_)
                  | refine a_store (i := 11) rfl rfl rfl rfl rfl Ty.sz_32 rfl hp rfl (by first | decide | (simp; done) | (simp; omega)) (fun w17 (hp : Hp w17 [(_, Cl [_, _, _, _, _] _), _, _, (_, Cl [_, _, _, _, _, _, _, _, _] _), (_, Cl [_] _), (_, Cl [_] _), (_, Cl [_] _), (_, Cl [_] _), (_, Cl [_] _), (_, Cl [_] _), _, _, _, _, (_, Cl [_, _, _, _] _), (_, Cl [_] _)]) hf _ => ?_)
                  | refine a_store (i := 12) rfl rfl rfl rfl rfl Ty.sz_32 rfl hp rfl (by first | decide | (simp; done) | (simp; omega)) (fun w17 (hp : Hp w17 [(_, Cl [_, _, _, _, _] _), _, _, (_, Cl [_, _, _, _, _, _, _, _, _] _), (_, Cl [_] _), (_, Cl [_] _), (_, Cl [_] _), (_, Cl [_] _), (_, Cl [_] _), (_, Cl [_] _), _, _, _, _, (_, Cl [_, _, _, _] _), (_, Cl [_] _)]) hf _ => ?_)
                  | refine a_store (i := 13) rfl rfl rfl rfl rfl Ty.sz_32 rfl hp rfl (by first | decide | (simp; done) | (simp; omega)) (fun w17 (hp : Hp w17 [(_, Cl [_, _, _, _, _] _), _, _, (_, Cl [_, _, _, _, _, _, _, _, _] _), (_, Cl [_] _), (_, Cl [_] _), (_, Cl [_] _), (_, Cl [_] _), (_, Cl [_] _), (_, Cl [_] _), _, _, _, _, (_, Cl [_, _, _, _] _), (_, Cl [_] _)]) hf _ => ?_)
                  | refine a_store (i := 14) rfl rfl rfl rfl rfl Ty.sz_32 rfl hp rfl (by first | decide | (simp; done) | (simp; omega)) (fun w17 (hp : Hp w17 [(_, Cl [_, _, _, _, _] _), _, _, (_, Cl [_, _, _, _, _, _, _, _, _] _), (_, Cl [_] _), (_, Cl [_] _), (_, Cl [_] _), (_, Cl [_] _), (_, Cl [_] _), (_, Cl [_] _), _, _, _, _, (_, Cl [_, _, _, _] _), (_, Cl [_] _)]) hf _ => ?_)
                  | refine a_store (i := 15) rfl rfl rfl rfl rfl Ty.sz_32 rfl hp rfl (by first | decide | (simp; done) | (simp; omega)) (fun w17 (hp : Hp w17 [(_, Cl [_, _, _, _, _] _), _, _, (_, Cl [_, _, _, _, _, _, _, _, _] _), (_, Cl [_] _), (_, Cl [_] _), (_, Cl [_] _), (_, Cl [_] _), (_, Cl [_] _), (_, Cl [_] _), _, _, _, _, (_, Cl [_, _, _, _] _), (_, Cl [_] _)]) hf _ => ?_)
                have hF := hF.step hf (by intro y hy; simp only [List.mem_cons, List.not_mem_nil, or_false] at hy; subst hy; first | (exact Or.inr (by omega)) | (exact Or.inl (by simp)))
                refine Ls_nil (Ib_n (Rd_n (i := 13) hp rfl (fun WE hp hf => ?_)))
                have hF := hF.step hf (by simp)
                have ef : fnext st (cg, ((J.head + kq : Nat) : Int), cf, cd) = ⟨st.l ++ [st.text ++ cd], [], 0, cg, ((J.head + kq : Nat) : Int).toNat + 1⟩ := by unfold fnext; rw [if_pos hlast]
                have hp := hp.addNone (Cl [] 5)
                rw [hJ0]
                refine ⟨⟨WE.heap.size, Nat.le_refl _, ⟨st.l ++ [st.text ++ cd], [], 0, cg, ((J.head + kq : Nat) : Int).toNat + 1⟩, by rw [← ef, ← findF_next hck hb]; exact hst, Nat.zero_le _, by simp only [List.length_append, List.length_cons, List.length_nil]; omega, Nat.zero_le _, A2, ca2, spa2, none, 0, [], x8_lt (hp.lt (i := 3) rfl) (hp.lt (i := 5) rfl) (hp.lt (i := 6) rfl) (hp.lt (i := 7) rfl) (hp.lt (i := 8) rfl) (hp.lt (i := 13) rfl) (fun g e => hp.lt (i := 10) (by rw [← e]; rfl)) (fun g e => by simp [blkOf] at e), by rw [List.length_append]; exact hA2, Ow.nil 1, hAn2, fun g e => by simp [blkOf] at e, ?_, hG.step hF (hX8 _ _ hAn hBn)⟩, _, hF, hNN⟩
                rw [List.length_append]
                exact hp.picks [0, 1, 2, 3, 4, 5, 6, 7, 8, 9, 10, 16, 12, 13] (by decide)
              · refine Ls_nil (Th_n (hK14 _ _ ?_))
                refine Wp_cond_f rfl ?_
                refine Wp_skip (Ib_n (Rd_n (i := 13) hp rfl (fun WE hp hf => ?_)))
                have hF := hF.step hf (by simp)
                have ef : fnext st (cg, ((J.head + kq : Nat) : Int), cf, cd) = ⟨st.l, st.text ++ cd, st.n + 1, cg, st.next⟩ := by unfold fnext; rw [if_neg (by simp only; exact fun h => h hlast)]
                rw [hJ0]
                refine ⟨⟨WE.heap.size, Nat.le_refl _, ⟨st.l, st.text ++ cd, st.n + 1, cg, st.next⟩, by rw [← ef, ← findF_next hck hb]; exact hst, by simp only; omega, by simp only; omega, by simp only [List.length_append]; omega, A, ca, spa, B2, cb2, spb2, x8_lt (hp.lt (i := 3) rfl) (hp.lt (i := 5) rfl) (hp.lt (i := 6) rfl) (hp.lt (i := 7) rfl) (hp.lt (i := 8) rfl) (hp.lt (i := 13) rfl) (fun g e => hp.lt (i := 10) (by rw [← e]; rfl)) (fun g e => hp.lt (i := 11) (by rw [← e]; rfl)), hA, by rw [List.length_append]; exact hB2, hAn, hBn2, ?_, hG.step hF (hX8 _ _ hAn hBn)⟩, _, hF, hNN⟩
                rw [List.length_append]
                exact (hp.picks [0, 1, 2, 3, 4, 5, 6, 7, 8, 9, 10, 11, 12, 13] (by decide))
          · refine Ls_s (wtdF rfl rfl rfl) rfl rfl ?_
            refine Ls_s (wtdF rfl rfl rfl) rfl rfl ?_
            refine Ls_s (wtdF rfl rfl rfl) rfl rfl ?_
            refine Ls_s (wtdF rfl rfl rfl) rfl rfl ?_
            refine Ls_y (wtdT rfl rfl rfl) rfl rfl (y_pick_f rfl rfl rfl) ?_
            refine Ls_y (wtd0 rfl) rfl rfl (y_pick_f rfl rfl rfl) ?_
            refine Ls_nil (Th_n (hK10 _ _ ?_))
            refine Wp_cond_f rfl ?_
            refine Wp_skip (Th_n (hK9 _ _ ?_))
            refine Wp_seq fun K17 hK17 => ?_
            refine Wp_region ?_
            have hb : fbad st (cg, ((J.head + kq : Nat) : Int), cf, cd) = false := by unfold fbad; simp only [Bool.or_eq_false_iff]; exact ⟨⟨⟨decide_eq_false hf4, bne_eq_false_iff_eq.2 hbn⟩, beq_eq_false_iff_ne.2 h82⟩, by simp [hnb]⟩
            have hbs := hB.1
            rw [List.length_map, Nat.mul_one] at hbs
            refine Ls_y (wtd0 rfl) rfl rfl (y_fld rfl rfl Ty.fo_60_0) ?_
            first
              | refine Ls_y (wtd0 rfl) rfl rfl (y_load (i := 0) rfl rfl Ty.pl_33 (fun _ e => e ▸ hp) rfl rfl) ?_
              | refine Ls_y (wtd0 rfl) rfl rfl (y_load (i := 1) rfl rfl Ty.pl_33 (fun _ e => e ▸ hp) rfl rfl) ?_
              | refine Ls_y (wtd0 rfl) rfl rfl (y_load (i := 2) rfl rfl Ty.pl_33 (fun _ e => e ▸ hp) rfl rfl) ?_
              | refine Ls_y (wtd0 rfl) rfl rfl (y_load (i := 3) rfl rfl Ty.pl_33 (fun _ e => e ▸ hp) rfl rfl) ?_
              | refine Ls_y (wtd0 rfl) rfl rfl (y_load (i := 4) rfl rfl Ty.pl_33 (fun _ e => e ▸ hp) rfl rfl) ?_
              | refine Ls_y (wtd0 rfl) rfl rfl (y_load (i := 5) rfl rfl Ty.pl_33 (fun _ e => e ▸ hp) rfl rfl) ?_
              | refine Ls_y (wtd0 rfl) rfl rfl (y_load (i := 6) rfl rfl Ty.pl_33 (fun _ e => e ▸ hp) rfl rfl) ?_
              | refine Ls_y (wtd0 rfl) rfl rfl (y_load (i := 7) rfl rfl Ty.pl_33 (fun _ e => e ▸ hp) rfl rfl) ?_
              | refine Ls_y (wtd0 rfl) rfl rfl (y_load (i := 8) rfl rfl Ty.pl_33 (fun _ e => e ▸ hp) rfl rfl) ?_
              | refine Ls_y (wtd0 rfl) rfl rfl (y_load (i := 9) rfl rfl Ty.pl_33 (fun _ e => e ▸ hp) rfl rfl) ?_
              | refine Ls_y (wtd0 rfl) rfl rfl (y_load (i := 10) rfl rfl Ty.pl_33 (fun _ e => e ▸ hp) rfl rfl) ?_
              | refine Ls_y (wtd0 rfl) rfl rfl (y_load (i := 11) rfl rfl Ty.pl_33 (fun _ e => e ▸ hp) rfl rfl) ?_
              | refine Ls_y (wtd0 rfl) rfl rfl (y_load (i := 12) rfl rfl Ty.pl_33 (fun _ e => e ▸ hp) rfl rfl) ?_
              | refine Ls_y (wtd0 rfl) rfl rfl (y_load (i := 13) rfl rfl Ty.pl_33 (fun _ e => e ▸ hp) rfl rfl) ?_
              | refine Ls_y (wtd0 rfl) rfl rfl (y_load (i := 14) rfl rfl Ty.pl_33 (fun _ e => e ▸ hp) rfl rfl) ?_
            refine Ls_a (wtd0 rfl) ?_
            first
              | refine a_store (i := 0) rfl rfl rfl rfl rfl Ty.sz_33 rfl hp rfl (by first | decide | (simp; done) | (simp; omega)) (fun w11 (hp : Hp w11 [(_, Cl [_, _, _, _, _] _), _, _, (_, Cl [_, _, _, _, _, _, _, _, _] _), (_, Cl [_] _), (_, Cl [_] _), (_, Cl [_] _), (_, Cl [_] _), (_, Cl [_] _), (_, Cl [_] _), _, _, _, _, (_, Cl [_, _, _, _] _)]) hf _ => ?_)
              | refine a_store (i := 1) rfl rfl rfl rfl rfl Ty.sz_33 rfl hp rfl (by first | decide | (simp; done) | (simp; omega)) (fun w11 (hp : Hp w11 [(_, Cl [_, _, _, _, _] _), _, _, (_, Cl [_, _, _, _, _, _, _, _, _] _), (_, Cl [_] _), (_, Cl [_] _), (_, Cl [_] _), (_, Cl [_] _), (_, Cl [_] _), (_, Cl [_] _), _, _, _, _, (_, Cl [_, _, _, _] _)]) hf _ => ?_)
              | refine a_store (i := 2) rfl rfl rfl rfl rfl Ty.sz_33 rfl hp rfl (by first | decide | (simp; done) | (simp; omega)) (fun w11 (hp : Hp w11 [(_, Cl [_, _, _, _, _] _), _, _, (_, Cl [_, _, _, _, _, _, _, _, _] _), (_, Cl [_] _), (_, Cl [_] _), (_, Cl [_] _), (_, Cl [_] _), (_, Cl [_] _), (_, Cl [_] _), _, _, _, _, (_, Cl [_, _, _, _] _)]) hf _ => ?_)
              | refine a_store (i := 3) rfl rfl rfl rfl rfl Ty.sz_33 rfl hp rfl (by first | decide | (simp; done) | (simp; omega)) (fun w11 (hp : Hp w11 [(_, Cl [_, _, _, _, _] _), _, _, (_, Cl [_, _, _, _, _, _, _, _, _] _), (_, Cl [_] _), (_, Cl [_] _), (_, Cl [_] _), (_, Cl [_] _), (_, Cl [_] _), (_, Cl [_] _), _, _, _, _, (_, Cl [_, _, _, _] _)]) hf _ => ?_)
              | refine a_store (i := 4) rfl rfl rfl rfl rfl Ty.sz_33 rfl hp rfl (by first | decide | (simp; done) | (simp; omega)) (fun w11 (hp : Hp w11 [(_, Cl [_, _, _, _, _] _), _, _, (_, Cl [_, _, _, _, _, _, _, _, _] _), (_, Cl [_] _), (_, Cl [_] _), (_, Cl [_] _), (_, Cl [_] _), (_, Cl [_] _), (_, Cl [_] _), _, _, _, _, (_, Cl [_, _, _, _] _)]) hf _ => ?_)
              | refine a_store (i := 5) rfl rfl rfl rfl rfl Ty.sz_33 rfl hp rfl (by first | decide | (simp; done) | (simp; omega)) (fun w11 (hp : Hp w11 [(_, Cl [_, _, _, _, _] _), _, _, (_, Cl [_, _, _, _, _, _, _, _, _] _), (_, Cl [_] _), (_, Cl [_] _), (_, Cl [_] _), (_, Cl [_] _), (_, Cl [_] _), (_, Cl [_] _), _, _, _, _, (_, Cl [_, _, _, _] _)]) hf _ => ?_)
              | refine a_store (i := 6) rfl rfl rfl rfl rfl Ty.sz_33 rfl hp rfl (by first | decide | (simp; done) | (simp; omega)) (fun w11 (hp : Hp w11 [(_, Cl [_, _, _, _, _] _), _, _, (_, Cl [_, _, _, _, _, _, _, _, _] _), (_, Cl [_] _), (_, Cl [_] _), (_, Cl [_] _), (_, Cl [_] _), (_, Cl [_] _), (_, Cl [_] _), _, _, _, _, (_, Cl [_, _, _, _] _)]) hf _ => ?_)
              | refine a_store (i := 7) rfl rfl rfl rfl rfl Ty.sz_33 rfl hp rfl (by first | decide | (simp; done) | (simp; omega)) (fun w11 (hp : Hp w11 [(_, Cl [_, _, _, _, _] _), _, _, (_, Cl [_, _, _, _, _, _, _, _, _] _), (_, Cl [_] _), (_, Cl [_] _), (_, Cl [_] _), (_, Cl [_] _), (_, Cl [_] _), (_, Cl [_] _), _, _, _, _, (_, Cl [_, _, _, _] _)]) hf _ => ?_)
              | refine a_store (i := 8) rfl rfl rfl rfl rfl Ty.sz_33 rfl hp rfl (by first | decide | (simp; done) | (simp; omega)) (fun w11 (hp : Hp w11 [(_, Cl [_, _, _, _, _] _), _, _, (_, Cl [_, _, _, _, _, _, _, _, _] _), (_, Cl [_] _), (_, Cl [_] _), (_, Cl [_] _), (_, Cl [_] _), (_, Cl [_] _), (_, Cl [_] _), _, _, _, _, (_, Cl [_, _, _, _] _)]) hf _ => ?_)
              | refine a_store (i := 9) rfl rfl rfl rfl rfl Ty.sz_33 rfl hp rfl (by first | decide | (simp; done) | (simp; omega)) (fun w11 (hp : Hp w11 [(_, Cl [_, _, _, _, _] _), _, _, (_, Cl [_, _, _, _, _, _, _, _, _] _), (_, Cl [_] _), (_, Cl [_] _), (_, Cl [_] _), (_, Cl [_] _), (_, Cl [_] _), (_, Cl [_] _), _, _, _, _, (_, Cl [_, _, _, _] _)]) hf _ => ?_)
              | refine a_store (i := 10) rfl rfl rfl rfl rfl Ty.sz_33 rfl hp rfl (by first | decide | (simp; done) | (simp; omega)) (fun w11 (hp : Hp w11 [(_, Cl [_, _, _, _, _] _), _, _, (_, Cl [_, _, _, _, _, _, _, _, _] _), (_, Cl [_] _), (_, Cl [_] _), (_, Cl [_] _), (_, Cl [_] _), (_, Cl [_] _), (_, Cl [_] _), _, _, _, _, (_, Cl [_, _, _, _] _)]) hf _ => ?_)
              | refine a_store (i := 11) rfl rfl rfl rfl rfl Ty.sz_33 rfl hp rfl (by first | decide | (simp; done) | (simp; omega)) (fun w11 (hp : Hp w11 [(_, Cl [_, _, _, _, _] _), _, _, (_, Cl [_, _, _, _, _, _, _, _, _] _), (_, Cl [_] _), (_, Cl [_] _), (_, Cl [_] _), (_, Cl [_] _), (_, Cl [_] _), (_, Cl [_] _), _, _, _, _, (_, Cl [_, _, _, _] _)]) hf _ => ?_)
              | refine a_store (i := 12) rfl rfl rfl rfl rfl Ty.sz_33 rfl hp rfl (by first | decide | (simp; done) | (simp; omega)) (fun w11 (hp : Hp w11 [(_, Cl [_, _, _, _, _] _), _, _, (_, Cl [_, _, _, _, _, _, _, _, _] _), (_, Cl [_] _), (_, Cl [_] _), (_, Cl [_] _), (_, Cl [_] _), (_, Cl [_] _), (_, Cl [_] _), _, _, _, _, (_, Cl [_, _, _, _] _)]) hf _ => ?_)
              | refine a_store (i := 13) rfl rfl rfl rfl rfl Ty.sz_33 rfl hp rfl (by first | decide | (simp; done) | (simp; omega)) (fun w11 (hp : Hp w11 [(_, Cl [_, _, _, _, _] _), _, _, (_, Cl [_, _, _, _, _, _, _, _, _] _), (_, Cl [_] _), (_, Cl [_] _), (_, Cl [_] _), (_, Cl [_] _), (_, Cl [_] _), (_, Cl [_] _), _, _, _, _, (_, Cl [_, _, _, _] _)]) hf _ => ?_)
              | refine a_store (i := 14) rfl rfl rfl rfl rfl Ty.sz_33 rfl hp rfl (by first | decide | (simp; done) | (simp; omega)) (fun w11 (hp : Hp w11 [(_, Cl [_, _, _, _, _] _), _, _, (_, Cl [_, _, _, _, _, _, _, _, _] _), (_, Cl [_] _), (_, Cl [_] _), (_, Cl [_] _), (_, Cl [_] _), (_, Cl [_] _), (_, Cl [_] _), _, _, _, _, (_, Cl [_, _, _, _] _)]) hf _ => ?_)
            have hF := hF.step hf (by intro y hy; simp only [List.mem_cons, List.not_mem_nil, or_false] at hy; subst hy; first | (exact Or.inr (by omega)) | (exact Or.inl (by simp)))
            refine Ls_nil (Th_n (hK17 _ _ ?_))
            refine Wp_seq fun K18 hK18 => ?_
            refine Wp_region ?_
            first
              | refine Ls_y (wtd0 rfl) rfl rfl (y_load (i := 0) rfl rfl Ty.pl_45 (fun _ e => e ▸ hp) rfl rfl) ?_
              | refine Ls_y (wtd0 rfl) rfl rfl (y_load (i := 1) rfl rfl Ty.pl_45 (fun _ e => e ▸ hp) rfl rfl) ?_
              | refine Ls_y (wtd0 rfl) rfl rfl (y_load (i := 2) rfl rfl Ty.pl_45 (fun _ e => e ▸ hp) rfl rfl) ?_
              | refine Ls_y (wtd0 rfl) rfl rfl (y_load (i := 3) rfl rfl Ty.pl_45 (fun _ e => e ▸ hp) rfl rfl) ?_
              | refine Ls_y (wtd0 rfl) rfl rfl (y_load (i := 4) rfl rfl Ty.pl_45 (fun _ e => e ▸ hp) rfl rfl) ?_
              | refine Ls_y (wtd0 rfl) rfl rfl (y_load (i := 5) rfl rfl Ty.pl_45 (fun _ e => e ▸ hp) rfl rfl) ?_
              | refine Ls_y (wtd0 rfl) rfl rfl (y_load (i := 6) rfl rfl Ty.pl_45 (fun _ e => e ▸ hp) rfl rfl) ?_
              | refine Ls_y (wtd0 rfl) rfl rfl (y_load (i := 7) rfl rfl Ty.pl_45 (fun _ e => e ▸ hp) rfl rfl) ?_
              | refine Ls_y (wtd0 rfl) rfl rfl (y_load (i := 8) rfl rfl Ty.pl_45 (fun _ e => e ▸ hp) rfl rfl) ?_
              | refine Ls_y (wtd0 rfl) rfl rfl (y_load (i := 9) rfl rfl Ty.pl_45 (fun _ e => e ▸ hp) rfl rfl) ?_
              | refine Ls_y (wtd0 rfl) rfl rfl (y_load (i := 10) rfl rfl Ty.pl_45 (fun _ e => e ▸ hp) rfl rfl) ?_
              | refine Ls_y (wtd0 rfl) rfl rfl (y_load (i := 11) rfl rfl Ty.pl_45 (fun _ e => e ▸ hp) rfl rfl) ?_
              | refine Ls_y (wtd0 rfl) rfl rfl (y_load (i := 12) rfl rfl Ty.pl_45 (fun _ e => e ▸ hp) rfl rfl) ?_
              | refine Ls_y (wtd0 rfl) rfl rfl (y_load (i := 13) rfl rfl Ty.pl_45 (fun _ e => e ▸ hp) rfl rfl) ?_
              | refine Ls_y (wtd0 rfl) rfl rfl (y_load (i := 14) rfl rfl Ty.pl_45 (fun _ e => e ▸ hp) rfl rfl) ?_
            refine Ls_y (wtd0 rfl) rfl rfl (y_fld rfl rfl Ty.fo_60_3) ?_
            first
              | refine Ls_y (wtd0 rfl) rfl rfl (y_load (i := 0) rfl rfl Ty.pl_9 (fun _ e => e ▸ hp) rfl rfl) ?_
              | refine Ls_y (wtd0 rfl) rfl rfl (y_load (i := 1) rfl rfl Ty.pl_9 (fun _ e => e ▸ hp) rfl rfl) ?_
              | refine Ls_y (wtd0 rfl) rfl rfl (y_load (i := 2) rfl rfl Ty.pl_9 (fun _ e => e ▸ hp) rfl rfl) ?_
              | refine Ls_y (wtd0 rfl) rfl rfl (y_load (i := 3) rfl rfl Ty.pl_9 (fun _ e => e ▸ hp) rfl rfl) ?_
              | refine Ls_y (wtd0 rfl) rfl rfl (y_load (i := 4) rfl rfl Ty.pl_9 (fun _ e => e ▸ hp) rfl rfl) ?_
              | refine Ls_y (wtd0 rfl) rfl rfl (y_load (i := 5) rfl rfl Ty.pl_9 (fun _ e => e ▸ hp) rfl rfl) ?_
              | refine Ls_y (wtd0 rfl) rfl rfl (y_load (i := 6) rfl rfl Ty.pl_9 (fun _ e => e ▸ hp) rfl rfl) ?_
              | refine Ls_y (wtd0 rfl) rfl rfl (y_load (i := 7) rfl rfl Ty.pl_9 (fun _ e => e ▸ hp) rfl rfl) ?_
              | refine Ls_y (wtd0 rfl) rfl rfl (y_load (i := 8) rfl rfl Ty.pl_9 (fun _ e => e ▸ hp) rfl rfl) ?_
              | refine Ls_y (wtd0 rfl) rfl rfl (y_load (i := 9) rfl rfl Ty.pl_9 (fun _ e => e ▸ hp) rfl rfl) ?_
              | refine Ls_y (wtd0 rfl) rfl rfl (y_load (i := 10) rfl rfl Ty.pl_9 (fun _ e => e ▸ hp) rfl rfl) ?_
              | refine Ls_y (wtd0 rfl) rfl rfl (y_load (i := 11) rfl rfl Ty.pl_9 (fun _ e => e ▸ hp) rfl rfl) ?_
              | refine Ls_y (wtd0 rfl) rfl rfl (y_load (i := 12) rfl rfl Ty.pl_9 (fun _ e => e ▸ hp) rfl rfl) ?_
              | refine Ls_y (wtd0 rfl) rfl rfl (y_load (i := 13) rfl rfl Ty.pl_9 (fun _ e => e ▸ hp) rfl rfl) ?_
              | refine Ls_y (wtd0 rfl) rfl rfl (y_load (i := 14) rfl rfl Ty.pl_9 (fun _ e => e ▸ hp) rfl rfl) ?_
            refine Ls_a (wtd0 rfl) ?_
            refine a_appstr (i := 11) rfl rfl rfl rfl rfl Ty.es_45 Try.underlying9 (by kernel_rfl) Ty.by_5 hB hp rfl (by unfold maxLen; omega) (by omega) (fun B2 cb2 spb2 wap hB2 (hp : Hp wap [(_, Cl [_, _, _, _, _] _), _, _, (_, Cl [_, _, _, _, _, _, _, _, _] _), (_, Cl [_] _), (_, Cl [_] _), (_, Cl [_] _), (_, Cl [_] _), (_, Cl [_] _), (_, Cl [_] _), _, _, _, _, (_, Cl [_, _, _, _] _)]) hf hBnew => ?_)
            have hzz := Nat.le_trans hG.size hF.size
            have hF := hF.step hf (fun y hy => .inl (List.mem_append_right _ hy))
            rw [← List.map_append] at hB2 hp
            have hBn2 : ∀ g, blkOf B2 = some g → w.heap.size ≤ g := fun g hg => by
              rcases hBnew g hg with h | h
              · exact hBn g h
              · exact Nat.le_trans hzz h
            refine Ls_a (wtd0 rfl) ?_
            first
              | refine a_store (i := 0) rfl rfl rfl rfl rfl Ty.sz_45 rfl hp rfl (by first | decide | (simp; done) | (simp; omega)) (fun w12 (hp : Hp w12 [(_, Cl [_, _, _, _, _] _), _, _, (_, Cl [_, _, _, _, _, _, _, _, _] _), (_, Cl [_] _), (_, Cl [_] _), (_, Cl [_] _), (_, Cl [_] _), (_, Cl [_] _), (_, Cl [_] _), _, _, _, _, (_, Cl [_, _, _, _] _)]) hf _ => ?_)
              | refine a_store (i := 1) rfl rfl rfl rfl rfl Ty.sz_45 rfl hp rfl (by first | decide | (simp; done) | (simp; omega)) (fun w12 (hp : Hp w12 [(_, Cl [_, _, _, _, _] _), _, _, (_, Cl [_, _, _, _, _, _, _, _, _] _), (_, Cl [_] _), (_, Cl [_] _), (_, Cl [_] _), (_, Cl [_] _), (_, Cl [_] _), (_, Cl [_] _), _, _, _, _, (_, Cl [_, _, _, _] _)]) hf _ => ?_)
              | refine a_store (i := 2) rfl rfl rfl rfl rfl Ty.sz_45 rfl hp rfl (by first | decide | (simp; done) | (simp; omega)) (fun w12 (hp : Hp w12 [(_, Cl [_, _, _, _, _] _), _, _, (_, Cl [_, _, _, _, _, _, _, _, _] _), (_, Cl [_] _), (_, Cl [_] _), (_, Cl [_] _), (_, Cl [_] _), (_, Cl [_] _), (_, Cl [_] _), _, _, _, _, (_, Cl [_, _, _, _] _)]) hf _ => ?_)
              | refine a_store (i := 3) rfl rfl rfl rfl rfl Ty.sz_45 rfl hp rfl (by first | decide | (simp; done) | (simp; omega)) (fun w12 (hp : Hp w12 [(_, Cl [_, _, _, _, _] _), _, _, (_, Cl [_, _, _, _, _, _, _, _, _] _), (_, Cl [_] _), (_, Cl [_] _), (_, Cl [_] _), (_, Cl [_] _), (_, Cl [_] _), (_, Cl [_] _), _, _, _, _, (_, Cl [_, _, _, _] _)]) hf _ => ?_)
              | refine a_store (i := 4) rfl rfl rfl rfl rfl Ty.sz_45 rfl hp rfl (by first | decide | (simp; done) | (simp; omega)) (fun w12 (hp : Hp w12 [(_, Cl [_, _, _, _, _] _), _, _, (_, Cl [_, _, _, _, _, _, _, _, _] _), (_, Cl [_] _), (_, Cl [_] _), (_, Cl [_] _), (_, Cl [_] _), (_, Cl [_] _), (_, Cl [_] _), _, _, _, _, (_, Cl [_, _, _, _] _)]) hf _ => ?_)
              | refine a_store (i := 5) rfl rfl rfl rfl rfl Ty.sz_45 rfl hp rfl (by first | decide | (simp; done) | (simp; omega)) (fun w12 (hp : Hp w12 [(_, Cl [_, _, _, _, _] _), _, _, (_, Cl [_, _, _, _, _, _, _, _, _] _), (_, Cl [_] _), (_, Cl [_] _), (_, Cl [_] _), (_, Cl [_] _), (_, Cl [_] _), (_, Cl [_] _), _, _, _, _, (_, Cl [_, _, _, _] _)]) hf _ => ?_)
              | refine a_store (i := 6) rfl rfl rfl rfl rfl Ty.sz_45 rfl hp rfl (by first | decide | (simp; done) | (simp; omega)) (fun w12 (hp : Hp w12 [(_, Cl [_, _, _, _, _] _), _, _, (_, Cl [_, _, _, _, _, _, _, _, _] _), (_, Cl [_] _), (_, Cl [_] _), (_, Cl [_] _), (_, Cl [_] _), (_, Cl [_] _), (_, Cl [_] _), _, _, _, _, (_, Cl [_, _, _, _] _)]) hf _ => ?_)
              | refine a_store (i := 7) rfl rfl rfl rfl rfl Ty.sz_45 rfl hp rfl (by first | decide | (simp; done) | (simp; omega)) (fun w12 (hp : Hp w12 [(_, Cl [_, _, _, _, _] _), _, _, (_, Cl [_, _, _, _, _, _, _, _, _] _), (_, Cl [_] _), (_, Cl [_] _), (_, Cl [_] _), (_, Cl [_] _), (_, Cl [_] _), (_, Cl [_] _), _, _, _, _, (_, Cl [_, _, _, _] _)]) hf _ => ?_)
              | refine a_store (i := 8) rfl rfl rfl rfl rfl Ty.sz_45 rfl hp rfl (by first | decide | (simp; done) | (simp; omega)) (fun w12 (hp : Hp w12 [(_, Cl [_, _, _, _, _] _), _, _, (_, Cl [_, _, _, _, _, _, _, _, _] _), (_, Cl [_] _), (_, Cl [_] _), (_, Cl [_] _), (_, Cl [_] _), (_, Cl [_] _), (_, Cl [_] _), _, _, _, _, (_, Cl [_, _, _, _] _)]) hf _ => ?_)
              | refine a_store (i := 9) rfl rfl rfl rfl rfl Ty.sz_45 rfl hp rfl (by first | decide | (simp; done) | (simp; omega)) (fun w12 (hp : Hp w12 [(_, Cl [_, _, _, _, _] _), _, _, (_, Cl [_, _, _, _, _, _, _, _, _] _), (_, Cl [_] _), (_, Cl [_] _), (_, Cl [_] _), (_, Cl [_] _), (_, Cl [_] _), (_, Cl [_] _), _, _, _, _, (_, Cl [_, _, _, _] _)]) hf _ => ?_)
              | refine a_store (i := 10) rfl rfl rfl rfl rfl Ty.sz_45 rfl hp rfl (by first | decide | (simp; done) | (simp; omega)) (fun w12 (hp : Hp w12 [(_, Cl [_, _, _, _, _] _), _, _, (_, Cl [_, _, _, _, _, _, _, _, _] _), (_, Cl [_] _), (_, Cl [_] _), (_, Cl [_] _), (_, Cl [_] _), (_, Cl [_] _), (_, Cl [_] _), _, _, _, _, (_, Cl [_, _, _, _] _)]) hf _ => ?_)
              | refine a_store (i := 11) rfl rfl rfl rfl rfl Ty.sz_45 rfl hp rfl (by first | decide | (simp; done) | (simp; omega)) (fun w12 (hp : Hp w12 [(_, Cl [_, _, _, _, _] _), _, _, (_, Cl [_, _, _, _, _, _, _, _, _] _), (_, Cl [_] _), (_, Cl [_] _), (_, Cl [_] _), (_, Cl [_] _), (_, Cl [_] _), (_, Cl [_] _), _, _, _, _, (_, Cl [_, _, _, _] _)]) hf _ => ?_)
              | refine a_store (i := 12) rfl rfl rfl rfl rfl Ty.sz_45 rfl hp rfl (by first | decide | (simp; done) | (simp; omega)) (fun w12 (hp : Hp w12 [(_, Cl [_, _, _, _, _] _), _, _, (_, Cl [_, _, _, _, _, _, _, _, _] _), (_, Cl [_] _), (_, Cl [_] _), (_, Cl [_] _), (_, Cl [_] _), (_, Cl [_] _), (_, Cl [_] _), _, _, _, _, (_, Cl [_, _, _, _] _)]) hf _ => ?_)
              | refine a_store (i := 13) rfl rfl rfl rfl rfl Ty.sz_45 rfl hp rfl (by first | decide | (simp; done) | (simp; omega)) (fun w12 (hp : Hp w12 [(_, Cl [_, _, _, _, _] _), _, _, (_, Cl [_, _, _, _, _, _, _, _, _] _), (_, Cl [_] _), (_, Cl [_] _), (_, Cl [_] _), (_, Cl [_] _), (_, Cl [_] _), (_, Cl [_] _), _, _, _, _, (_, Cl [_, _, _, _] _)]) hf _ => ?_)
              | refine a_store (i := 14) rfl rfl rfl rfl rfl Ty.sz_45 rfl hp rfl (by first | decide | (simp; done) | (simp; omega)) (fun w12 (hp : Hp w12 [(_, Cl [_, _, _, _, _] _), _, _, (_, Cl [_, _, _, _, _, _, _, _, _] _), (_, Cl [_] _), (_, Cl [_] _), (_, Cl [_] _), (_, Cl [_] _), (_, Cl [_] _), (_, Cl [_] _), _, _, _, _, (_, Cl [_, _, _, _] _)]) hf _ => ?_)
            have hF := hF.step hf (by intro y hy; simp only [List.mem_cons, List.not_mem_nil, or_false] at hy; subst hy; first | (exact Or.inr (by omega)) | (exact Or.inl (by simp)))
            refine Ls_nil (Th_n (hK18 _ _ ?_))
            refine Wp_seq fun K19 hK19 => ?_
            refine Wp_region ?_
            first
              | refine Ls_y (wtd0 rfl) rfl rfl (y_load (i := 0) rfl rfl Ty.pl_3 (fun _ e => e ▸ hp) rfl rfl) ?_
              | refine Ls_y (wtd0 rfl) rfl rfl (y_load (i := 1) rfl rfl Ty.pl_3 (fun _ e => e ▸ hp) rfl rfl) ?_
              | refine Ls_y (wtd0 rfl) rfl rfl (y_load (i := 2) rfl rfl Ty.pl_3 (fun _ e => e ▸ hp) rfl rfl) ?_
              | refine Ls_y (wtd0 rfl) rfl rfl (y_load (i := 3) rfl rfl Ty.pl_3 (fun _ e => e ▸ hp) rfl rfl) ?_
              | refine Ls_y (wtd0 rfl) rfl rfl (y_load (i := 4) rfl rfl Ty.pl_3 (fun _ e => e ▸ hp) rfl rfl) ?_
              | refine Ls_y (wtd0 rfl) rfl rfl (y_load (i := 5) rfl rfl Ty.pl_3 (fun _ e => e ▸ hp) rfl rfl) ?_
              | refine Ls_y (wtd0 rfl) rfl rfl (y_load (i := 6) rfl rfl Ty.pl_3 (fun _ e => e ▸ hp) rfl rfl) ?_
              | refine Ls_y (wtd0 rfl) rfl rfl (y_load (i := 7) rfl rfl Ty.pl_3 (fun _ e => e ▸ hp) rfl rfl) ?_
              | refine Ls_y (wtd0 rfl) rfl rfl (y_load (i := 8) rfl rfl Ty.pl_3 (fun _ e => e ▸ hp) rfl rfl) ?_
              | refine Ls_y (wtd0 rfl) rfl rfl (y_load (i := 9) rfl rfl Ty.pl_3 (fun _ e => e ▸ hp) rfl rfl) ?_
              | refine Ls_y (wtd0 rfl) rfl rfl (y_load (i := 10) rfl rfl Ty.pl_3 (fun _ e => e ▸ hp) rfl rfl) ?_
              | refine Ls_y (wtd0 rfl) rfl rfl (y_load (i := 11) rfl rfl Ty.pl_3 (fun _ e => e ▸ hp) rfl rfl) ?_
              | refine Ls_y (wtd0 rfl) rfl rfl (y_load (i := 12) rfl rfl Ty.pl_3 (fun _ e => e ▸ hp) rfl rfl) ?_
              | refine Ls_y (wtd0 rfl) rfl rfl (y_load (i := 13) rfl rfl Ty.pl_3 (fun _ e => e ▸ hp) rfl rfl) ?_
              | refine Ls_y (wtd0 rfl) rfl rfl (y_load (i := 14) rfl rfl Ty.pl_3 (fun _ e => e ▸ hp) rfl rfl) ?_
            first
              | refine Ls_y (wtd0 rfl) rfl rfl (y_add rfl rfl rfl (w_succ (by omega))) ?_
              | refine Ls_y (wtd0 rfl) rfl rfl (y_add rfl rfl rfl (wf_i64 (by omega))) ?_
              | refine Ls_y (wtd0 rfl) rfl rfl (y_add rfl rfl rfl rfl) ?_
            refine Ls_a (wtd0 rfl) ?_
            first
              | refine a_store (i := 0) rfl rfl rfl rfl rfl Ty.sz_3 rfl hp rfl (by first | decide | (simp; done) | (simp; omega)) (fun w13 (hp : Hp w13 [(_, Cl [_, _, _, _, _] _), _, _, (_, Cl [_, _, _, _, _, _, _, _, _] _), (_, Cl [_] _), (_, Cl [_] _), (_, Cl [_] _), (_, Cl [_] _), (_, Cl [_] _), (_, Cl [_] _), _, _, _, _, (_, Cl [_, _, _, _] _)]) hf _ => ?_)
              | refine a_store (i := 1) rfl rfl rfl rfl rfl Ty.sz_3 rfl hp rfl (by first | decide | (simp; done) | (simp; omega)) (fun w13 (hp : Hp w13 [(_, Cl [_, _, _, _, _] _), _, _, (_, Cl [_, _, _, _, _, _, _, _, _] _), (_, Cl [_] _), (_, Cl [_] _), (_, Cl [_] _), (_, Cl [_] _), (_, Cl [_] _), (_, Cl [_] _), _, _, _, _, (_, Cl [_, _, _, _] _)]) hf _ => ?_)
              | refine a_store (i := 2) rfl rfl rfl rfl rfl Ty.sz_3 rfl hp rfl (by first | decide | (simp; done) | (simp; omega)) (fun w13 (hp : Hp w13 [(_, Cl [_, _, _, _, _] _), _, _, (_, Cl [_, _, _, _, _, _, _, _, _] _), (_, Cl [_] _), (_, Cl [_] _), (_, Cl [_] _), (_, Cl [_] _), (_, Cl [_] _), (_, Cl [_] _), _, _, _, _, (_, Cl [_, _, _, _] _)]) hf _ => ?_)
              | refine a_store (i := 3) rfl rfl rfl rfl rfl Ty.sz_3 rfl hp rfl (by first | decide | (simp; done) | (simp; omega)) (fun w13 (hp : Hp w13 [(_, Cl [_, _, _, _, _] _), _, _, (_, Cl [_, _, _, _, _, _, _, _, _] _), (_, Cl [_] _), (_, Cl [_] _), (_, Cl [_] _), (_, Cl [_] _), (_, Cl [_] _), (_, Cl [_] _), _, _, _, _, (_, Cl [_, _, _, _] _)]) hf _ => ?_)
              | refine a_store (i := 4) rfl rfl rfl rfl rfl Ty.sz_3 rfl hp rfl (by first | decide | (simp; done) | (simp; omega)) (fun w13 (hp : Hp w13 [(_, Cl [_, _, _, _, _] _), _, _, (_, Cl [_, _, _, _, _, _, _, _, _] _), (_, Cl [_] _), (_, Cl [_] _), (_, Cl [_] _), (_, Cl [_] _), (_, Cl [_] _), (_, Cl [_] _), _, _, _, _, (_, Cl [_, _, _, _] _)]) hf _ => ?_)
              | refine a_store (i := 5) rfl rfl rfl rfl rfl Ty.sz_3 rfl hp rfl (by first | decide | (simp; done) | (simp; omega)) (fun w13 (hp : Hp w13 [(_, Cl [_, _, _, _, _] _), _, _, (_, Cl [_, _, _, _, _, _, _, _, _] _), (_, Cl [_] _), (_, Cl [_] _), (_, Cl [_] _), (_, Cl [_] _), (_, Cl [_] _), (_, Cl [_] _), _, _, _, _, (_, Cl [_, _, _, _] _)]) hf _ => ?_)
              | refine a_store (i := 6) rfl rfl rfl rfl rfl Ty.sz_3 rfl hp rfl (by first | decide | (simp; done) | (simp; omega)) (fun w13 (hp : Hp w13 [(_, Cl [_, _, _, _, _] _), _, _, (_, Cl [_, _, _, _, _, _, _, _, _] _), (_, Cl [_] _), (_, Cl [_] _), (_, Cl [_] _), (_, Cl [_] _), (_, Cl [_] _), (_, Cl [_] _), _, _, _, _, (_, Cl [_, _, _, _] _)]) hf _ => ?_)
              | refine a_store (i := 7) rfl rfl rfl rfl rfl Ty.sz_3 rfl hp rfl (by first | decide | (simp; done) | (simp; omega)) (fun w13 (hp : Hp w13 [(_, Cl [_, _, _, _, _] _), _, _, (_, Cl [_, _, _, _, _, _, _, _, _] _), (_, Cl [_] _), (_, Cl [_] _), (_, Cl [_] _), (_, Cl [_] _), (_, Cl [_] _), (_, Cl [_] _), _, _, _, _, (_, Cl [_, _, _, _] _)]) hf _ => ?_)
              | refine a_store (i := 8) rfl rfl rfl rfl rfl Ty.sz_3 rfl hp rfl (by first | decide | (simp; done) | (simp; omega)) (fun w13 (hp : Hp w13 [(_, Cl [_, _, _, _, _] _), _, _, (_, Cl [_, _, _, _, _, _, _, _, _] _), (_, Cl [_] _), (_, Cl [_] _), (_, Cl [_] _), (_, Cl [_] _), (_, Cl [_] _), (_, Cl [_] _), _, _, _, _, (_, Cl [_, _, _, _] _)]) hf _ => ?_)
              | refine a_store (i := 9) rfl rfl rfl rfl rfl Ty.sz_3 rfl hp rfl (by first | decide | (simp; done) | (simp; omega)) (fun w13 (hp : Hp w13 [(_, Cl [_, _, _, _, _] _), _, _, (_, Cl [_, _, _, _, _, _, _, _, _] _), (_, Cl [_] _), (_, Cl [_] _), (_, Cl [_] _), (_, Cl [_] _), (_, Cl [_] _), (_, Cl [_] _), _, _, _, _, (_, Cl [_, _, _, _] _)]) hf _ => ?_)
              | refine a_store (i := 10) rfl rfl rfl rfl rfl Ty.sz_3 rfl hp rfl (by first | decide | (simp; done) | (simp; omega)) (fun w13 (hp : Hp w13 [(_, Cl [_, _, _, _, _] _), _, _, (_, Cl [_, _, _, _, _, _, _, _, _] _), (_, Cl [_] _), (_, Cl [_] _), (_, Cl [_] _), (_, Cl [_] _), (_, Cl [_] _), (_, Cl [_] _), _, _, _, _, (_, Cl [_, _, _, _] _)]) hf _ => ?_)
              | refine a_store (i := 11) rfl rfl rfl rfl rfl Ty.sz_3 rfl hp rfl (by first | decide | (simp; done) | (simp; omega)) (fun w13 (hp : Hp w13 [(_, Cl [_, _, _, _, _] _), _, _, (_, Cl [_, _, _, _, _, _, _, _, _] _), (_, Cl [_] _), (_, Cl [_] _), (_, Cl [_] _), (_, Cl [_] _), (_, Cl [_] _), (_, Cl [_] _), _, _, _, _, (_, Cl [_, _, _, _] _)]) hf _ => ?_)
              | refine a_store (i := 12) rfl rfl rfl rfl rfl Ty.sz_3 rfl hp rfl (by first | decide | (simp; done) | (simp; omega)) (fun w13 (hp : Hp w13 [(_, Cl [_, _, _, _, _] _), _, _, (_, Cl [_, _, _, _, _, _, _, _, _] _), (_, Cl [_] _), (_, Cl [_] _), (_, Cl [_] _), (_, Cl [_] _), (_, Cl [_] _), (_, Cl [_] _), _, _, _, _, (_, Cl [_, _, _, _] _)]) hf _ => ?_)
              | refine a_store (i := 13) rfl rfl rfl rfl rfl Ty.sz_3 rfl hp rfl (by first | decide | (simp; done) | (simp; omega)) (fun w13 (hp : Hp w13 [(_, Cl [_, _, _, _, _] _), _, _, (_, Cl [_, _, _, _, _, _, _, _, _] _), (_, Cl [_] _), (_, Cl [_] _), (_, Cl [_] _), (_, Cl [_] _), (_, Cl [_] _), (_, Cl [_] _), _, _, _, _, (_, Cl [_, _, _, _] _)]) hf _ => ?_)
              | refine a_store (i := 14) rfl rfl rfl rfl rfl Ty.sz_3 rfl hp rfl (by first | decide | (simp; done) | (simp; omega)) (fun w13 (hp : Hp w13 [(_, Cl [_, _, _, _, _] _), _, _, (_, Cl [_, _, _, _, _, _, _, _, _] _), (_, Cl [_] _), (_, Cl [_] _), (_, Cl [_] _), (_, Cl [_] _), (_, Cl [_] _), (_, Cl [_] _), _, _, _, _, (_, Cl [_, _, _, _] _)]) hf _ => ?_)
            have hF := hF.step hf (by intro y hy; simp only [List.mem_cons, List.not_mem_nil, or_false] at hy; subst hy; first | (exact Or.inr (by omega)) | (exact Or.inl (by simp)))
            refine Ls_nil (Th_n (hK19 _ _ ?_))
            refine Wp_seq fun K20 hK20 => ?_
            refine Wp_region ?_
            refine Ls_y (wtd0 rfl) rfl rfl (y_fld rfl rfl Ty.fo_60_2) ?_
            first
              | refine Ls_y (wtd0 rfl) rfl rfl (y_load (i := 0) rfl rfl Ty.pl_5 (fun _ e => e ▸ hp) rfl rfl) ?_
              | refine Ls_y (wtd0 rfl) rfl rfl (y_load (i := 1) rfl rfl Ty.pl_5 (fun _ e => e ▸ hp) rfl rfl) ?_
              | refine Ls_y (wtd0 rfl) rfl rfl (y_load (i := 2) rfl rfl Ty.pl_5 (fun _ e => e ▸ hp) rfl rfl) ?_
              | refine Ls_y (wtd0 rfl) rfl rfl (y_load (i := 3) rfl rfl Ty.pl_5 (fun _ e => e ▸ hp) rfl rfl) ?_
              | refine Ls_y (wtd0 rfl) rfl rfl (y_load (i := 4) rfl rfl Ty.pl_5 (fun _ e => e ▸ hp) rfl rfl) ?_
              | refine Ls_y (wtd0 rfl) rfl rfl (y_load (i := 5) rfl rfl Ty.pl_5 (fun _ e => e ▸ hp) rfl rfl) ?_
              | refine Ls_y (wtd0 rfl) rfl rfl (y_load (i := 6) rfl rfl Ty.pl_5 (fun _ e => e ▸ hp) rfl rfl) ?_
              | refine Ls_y (wtd0 rfl) rfl rfl (y_load (i := 7) rfl rfl Ty.pl_5 (fun _ e => e ▸ hp) rfl rfl) ?_
              | refine Ls_y (wtd0 rfl) rfl rfl (y_load (i := 8) rfl rfl Ty.pl_5 (fun _ e => e ▸ hp) rfl rfl) ?_
              | refine Ls_y (wtd0 rfl) rfl rfl (y_load (i := 9) rfl rfl Ty.pl_5 (fun _ e => e ▸ hp) rfl rfl) ?_
              | refine Ls_y (wtd0 rfl) rfl rfl (y_load (i := 10) rfl rfl Ty.pl_5 (fun _ e => e ▸ hp) rfl rfl) ?_
              | refine Ls_y (wtd0 rfl) rfl rfl (y_load (i := 11) rfl rfl Ty.pl_5 (fun _ e => e ▸ hp) rfl rfl) ?_
              | refine Ls_y (wtd0 rfl) rfl rfl (y_load (i := 12) rfl rfl Ty.pl_5 (fun _ e => e ▸ hp) rfl rfl) ?_
              | refine Ls_y (wtd0 rfl) rfl rfl (y_load (i := 13) rfl rfl Ty.pl_5 (fun _ e => e ▸ hp) rfl rfl) ?_
              | refine Ls_y (wtd0 rfl) rfl rfl (y_load (i := 14) rfl rfl Ty.pl_5 (fun _ e => e ▸ hp) rfl rfl) ?_
            refine Ls_y (wtd0 rfl) rfl rfl (y_bits rfl rfl rfl (by simp) rfl) ?_
            refine Ls_y (wtd0 rfl) rfl rfl (y_ne rfl rfl rfl) ?_
            refine Ls_bool 57 rfl (fun hlast => ?_) (fun hlast => ?_)
            all_goals try simp only [decide_eq_true_eq, decide_eq_false_iff_not, beq_iff_eq, bne_iff_ne, ne_eq, beq_eq_false_iff_ne, bne_eq_false_iff_eq, Bool.not_eq_true, Bool.not_eq_false] at hlast
            · refine Ls_nil (Th_n (hK20 _ _ ?_))
              refine Wp_cond_t rfl ?_
              refine Wp_seq fun K21 hK21 => ?_
              refine Wp_region ?_
              first
                | refine Ls_y (wtd0 rfl) rfl rfl (y_load (i := 0) rfl rfl Ty.pl_22 (fun _ e => e ▸ hp) rfl rfl) ?_
                | refine Ls_y (wtd0 rfl) rfl rfl (y_load (i := 1) rfl rfl Ty.pl_22 (fun _ e => e ▸ hp) rfl rfl) ?_
                | refine Ls_y (wtd0 rfl) rfl rfl (y_load (i := 2) rfl rfl Ty.pl_22 (fun _ e => e ▸ hp) rfl rfl) ?_
                | refine Ls_y (wtd0 rfl) rfl rfl (y_load (i := 3) rfl rfl Ty.pl_22 (fun _ e => e ▸ hp) rfl rfl) ?_
                | refine Ls_y (wtd0 rfl) rfl rfl (y_load (i := 4) rfl rfl Ty.pl_22 (fun _ e => e ▸ hp) rfl rfl) ?_
                | refine Ls_y (wtd0 rfl) rfl rfl (y_load (i := 5) rfl rfl Ty.pl_22 (fun _ e => e ▸ hp) rfl rfl) ?_
                | refine Ls_y (wtd0 rfl) rfl rfl (y_load (i := 6) rfl rfl Ty.pl_22 (fun _ e => e ▸ hp) rfl rfl) ?_
                | refine Ls_y (wtd0 rfl) rfl rfl (y_load (i := 7) rfl rfl Ty.pl_22 (fun _ e => e ▸ hp) rfl rfl) ?_
                | refine Ls_y (wtd0 rfl) rfl rfl (y_load (i := 8) rfl rfl Ty.pl_22 (fun _ e => e ▸ hp) rfl rfl) ?_
                | refine Ls_y (wtd0 rfl) rfl rfl (y_load (i := 9) rfl rfl Ty.pl_22 (fun _ e => e ▸ hp) rfl rfl) ?_
                | refine Ls_y (wtd0 rfl) rfl rfl (y_load (i := 10) rfl rfl Ty.pl_22 (fun _ e => e ▸ hp) rfl rfl) ?_
                | refine Ls_y (wtd0 rfl) rfl rfl (y_load (i := 11) rfl rfl Ty.pl_22 (fun _ e => e ▸ hp) rfl rfl) ?_
                | refine Ls_y (wtd0 rfl) rfl rfl (y_load (i := 12) rfl rfl Ty.pl_22 (fun _ e => e ▸ hp) rfl rfl) ?_
                | refine Ls_y (wtd0 rfl) rfl rfl (y_load (i := 13) rfl rfl Ty.pl_22 (fun _ e => e ▸ hp) rfl rfl) ?_
                | refine Ls_y (wtd0 rfl) rfl rfl (y_load (i := 14) rfl rfl Ty.pl_22 (fun _ e => e ▸ hp) rfl rfl) ?_
              first
                | refine Ls_y (wtd0 rfl) rfl rfl (y_load (i := 0) rfl rfl Ty.pl_45 (fun _ e => e ▸ hp) rfl rfl) ?_
                | refine Ls_y (wtd0 rfl) rfl rfl (y_load (i := 1) rfl rfl Ty.pl_45 (fun _ e => e ▸ hp) rfl rfl) ?_
                | refine Ls_y (wtd0 rfl) rfl rfl (y_load (i := 2) rfl rfl Ty.pl_45 (fun _ e => e ▸ hp) rfl rfl) ?_
                | refine Ls_y (wtd0 rfl) rfl rfl (y_load (i := 3) rfl rfl Ty.pl_45 (fun _ e => e ▸ hp) rfl rfl) ?_
                | refine Ls_y (wtd0 rfl) rfl rfl (y_load (i := 4) rfl rfl Ty.pl_45 (fun _ e => e ▸ hp) rfl rfl) ?_
                | refine Ls_y (wtd0 rfl) rfl rfl (y_load (i := 5) rfl rfl Ty.pl_45 (fun _ e => e ▸ hp) rfl rfl) ?_
                | refine Ls_y (wtd0 rfl) rfl rfl (y_load (i := 6) rfl rfl Ty.pl_45 (fun _ e => e ▸ hp) rfl rfl) ?_
                | refine Ls_y (wtd0 rfl) rfl rfl (y_load (i := 7) rfl rfl Ty.pl_45 (fun _ e => e ▸ hp) rfl rfl) ?_
                | refine Ls_y (wtd0 rfl) rfl rfl (y_load (i := 8) rfl rfl Ty.pl_45 (fun _ e => e ▸ hp) rfl rfl) ?_
                | refine Ls_y (wtd0 rfl) rfl rfl (y_load (i := 9) rfl rfl Ty.pl_45 (fun _ e => e ▸ hp) rfl rfl) ?_
                | refine Ls_y (wtd0 rfl) rfl rfl (y_load (i := 10) rfl rfl Ty.pl_45 (fun _ e => e ▸ hp) rfl rfl) ?_
                | refine Ls_y (wtd0 rfl) rfl rfl (y_load (i := 11) rfl rfl Ty.pl_45 (fun _ e => e ▸ hp) rfl rfl) ?_
                | refine Ls_y (wtd0 rfl) rfl rfl (y_load (i := 12) rfl rfl Ty.pl_45 (fun _ e => e ▸ hp) rfl rfl) ?_
                | refine Ls_y (wtd0 rfl) rfl rfl (y_load (i := 13) rfl rfl Ty.pl_45 (fun _ e => e ▸ hp) rfl rfl) ?_
                | refine Ls_y (wtd0 rfl) rfl rfl (y_load (i := 14) rfl rfl Ty.pl_45 (fun _ e => e ▸ hp) rfl rfl) ?_
              refine Ls_y (wtd0 rfl) rfl rfl (y_cvO (i := 11) rfl rfl Try.underlying45 Try.underlying5 Try.underlying9 hB2 hp rfl) ?_
              refine Ls_a (wtd0 rfl) ?_
              refine a_bsl rfl rfl rfl rfl rfl Ty.es_22 Ty.zc_9 rfl (by decide) (by simp [Value.cells]) hp (fun g20 wbs (hp : Hp wbs [(_, Cl [_, _, _, _, _] _), _, _, (_, Cl [_, _, _, _, _, _, _, _, _] _), (_, Cl [_] _), (_, Cl [_] _), (_, Cl [_] _), (_, Cl [_] _), (_, Cl [_] _), (_, Cl [_] _), _, _, _, _, (_, Cl [_, _, _, _] _), (_, Cl [_] _)]) hf hg20 => ?_)
              have hF := hF.step0 hf
              refine Ls_a (wtd0 rfl) ?_
              refine a_append (i := 10) rfl rfl rfl rfl rfl rfl Ty.es_22 Ty.zc_9 rfl Ty.by_9 (by decide) hA hp rfl rfl (src_of (range_all (i := 15) hp rfl)) (by simp) (by simp [Value.oneCell']) (by unfold maxLen; omega) (by omega) (fun A2 ca2 spa2 wap2 hA2 (hp : Hp wap2 [(_, Cl [_, _, _, _, _] _), _, _, (_, Cl [_, _, _, _, _, _, _, _, _] _), (_, Cl [_] _), (_, Cl [_] _), (_, Cl [_] _), (_, Cl [_] _), (_, Cl [_] _), (_, Cl [_] _), _, _, _, _, (_, Cl [_, _, _, _] _), (_, Cl [_] _)]) hf hAnew => ?_)
              have hzz := Nat.le_trans hG.size hF.size
              have hF := hF.step hf (fun y hy => .inl (List.mem_append_left _ (List.mem_append_right _ hy)))
              have hmv : st.l.map sv ++ [sv (st.text ++ cd)] = (st.l ++ [st.text ++ cd]).map sv := by simp
              rw [hmv] at hA2 hp
              have hAn2 : ∀ g, blkOf A2 = some g → w.heap.size ≤ g := fun g hg => by
                rcases hAnew g hg with h | h
                · exact hAn g h
                · exact Nat.le_trans hzz h
              refine Ls_a (wtd0 rfl) ?_
              first
                | refine a_store (i := 0) rfl rfl rfl rfl rfl Ty.sz_22 rfl hp rfl (by first | decide | (simp; done) | (simp; omega)) (fun w14 (hp : Hp w14 [(_, Cl [_, _, _, _, _] _), _, _, (_, Cl [_, _, _, _, _, _, _, _, _] _), (_, Cl [_] _), (_, Cl [_] _), (_, Cl [_] _), (_, Cl [_] _), (_, Cl [_] _), (_, Cl [_] _), _, _, _, _, (_, Cl [_, _, _, _] _), (_, Cl [_] _)]) hf _ => ?_)
                | refine a_store (i := 1) rfl rfl rfl rfl rfl Ty.sz_22 rfl hp rfl (by first | decide | (simp; done) | (simp; omega)) (fun w14 (hp : Hp w14 [(_, Cl [_, _, _, _, _] _), _, _, (_, Cl [_, _, _, _, _, _, _, _, _] _), (_, Cl [_] _), (_, Cl [_] _), (_, Cl [_] _), (_, Cl [_] _), (_, Cl [_] _), (_, Cl [_] _), _, _, _, _, (_, Cl [_, _, _, _] _), (_, Cl [_] _)]) hf _ => ?_)
                | refine a_store (i := 2) rfl rfl rfl rfl rfl Ty.sz_22 rfl hp rfl (by first | decide | (simp; done) | (simp; omega)) (fun w14 (hp : Hp w14 [(_, Cl [_, _, _, _, _] _), _, _, (_, Cl [_, _, _, _, _, _, _, _, _] _), (_, Cl [_] _), (_, Cl [_] _), (_, Cl [_] _), (_, Cl [_] _), (_, Cl [_] _), (_, Cl [_] _), _, _, _, _, (_, Cl [_, _, _, _] _), (_, Cl [_] _)]) hf _ => ?_)
                | refine a_store (i := 3) rfl rfl rfl rfl rfl Ty.sz_22 rfl hp rfl (by first | decide | (simp; done) | (simp; omega)) (fun w14 (hp : Hp w14 [(_, Cl [_, _, _, _, _] _), _, _, (_, Cl [_, _, _, _, _, _, _, _, _] _), (_, Cl [_] _), (_, Cl [_] _), (_, Cl [_] _), (_, Cl [_] _), (_, Cl [_] _), (_, Cl [_] _), _, _, _, _, (_, Cl [_, _, _, _] _), (_, Cl [_] _)]) hf _ => ?_)
                | refine a_store (i := 4) rfl rfl rfl rfl rfl Ty.sz_22 rfl hp rfl (by first | decide | (simp; done) | (simp; omega)) (fun w14 (hp : Hp w14 [(_, Cl [_, _, _, _, _] _), _, _, (_, Cl [_, _, _, _, _, _, _, _, _] _), (_, Cl [_] _), (_, Cl [_] _), (_, Cl [_] _), (_, Cl [_] _), (_, Cl [_] _), (_, Cl [_] _), _, _, _, _, (_, Cl [_, _, _, _] _), (_, Cl [_] _)]) hf _ => ?_)
                | refine a_store (i := 5) rfl rfl rfl rfl rfl Ty.sz_22 rfl hp rfl (by first | decide | (simp; done) | (simp; omega)) (fun w14 (hp : Hp w14 [(_, Cl [_, _, _, _, _] _), _, _, (_, Cl [_, _, _, _, _, _, _, _, _] _), (_, Cl [_] _), (_, Cl [_] _), (_, Cl [_] _), (_, Cl [_] _), (_, Cl [_] _), (_, Cl [_] _), _, _, _, _, (_, Cl [_, _, _, _] _), (_, Cl [_] _)]) hf _ => ?_)
                | refine a_store (i := 6) rfl rfl rfl rfl rfl Ty.sz_22 rfl hp rfl (by first | decide | (simp; done) | (simp; omega)) (fun w14 (hp : Hp w14 [(_, Cl [_, _, _, _, _] _), _, _, (_, Cl [_, _, _, _, _, _, _, _, _] _), (_, Cl [_] _), (_, Cl [_] _), (_, Cl [_] _), (_, Cl [_] _), (_, Cl [_] _), (_, Cl [_] _), _, _, _, _, (_, Cl [_, _, _, _] _), (_, Cl [_] _)]) hf _ => ?_)
                | refine a_store (i := 7) rfl rfl rfl rfl rfl Ty.sz_22 rfl hp rfl (by first | decide | (simp; done) | (simp; omega)) (fun w14 (hp : Hp w14 [(_, Cl [_, _, _, _, _] _), _, _, (_, Cl [_, _, _, _, _, _, _, _, _] _), (_, Cl [_] _), (_, Cl [_] _), (_, Cl [_] _), (_, Cl [_] _), (_, Cl [_] _), (_, Cl [_] _), _, _, _, _, (_, Cl [_, _, _, _] _), (_, Cl [_] _)]) hf _ => ?_)
                | refine a_store (i := 8) rfl rfl rfl rfl rfl Ty.sz_22 rfl hp rfl (by first | decide | (simp; done) | (simp; omega)) (fun w14 (hp : Hp w14 [(_, Cl [_, _, _, _, _] _), _, _, (_, Cl [_, _, _, _, _, _, _, _, _] _), (_, Cl [_] _), (_, Cl [_] _), (_, Cl [_] _), (_, Cl [_] _), (_, Cl [_] _), (_, Cl [_] _), _, _, _, _, (_, Cl [_, _, _, _] _), (_, Cl [_] _)]) hf _ => ?_)
                | refine a_store (i := 9) rfl rfl rfl rfl rfl Ty.sz_22 rfl hp rfl (by first | decide | (simp; done) | (simp; omega)) (fun w14 (hp : Hp w14 [(_, Cl [_, _, _, _, _] _), _, _, (_, Cl [_, _, _, _, _, _, _, _, _] _), (_, Cl [_] _), (_, Cl [_] _), (_, Cl [_] _), (_, Cl [_] _), (_, Cl [_] _), (_, Cl [_] _), _, _, _, _, (_, Cl [_, _, _, _] _), (_, Cl [_] _)]) hf _ => ?_)
                | refine a_store (i := 10) rfl rfl rfl rfl rfl Ty.sz_22 rfl hp rfl (by first | decide | (simp; done) | (simp; omega)) (fun w14 (hp : Hp w14 [(_, Cl [_, _, _, _, _] _), _, _, (_, Cl [_, _, _, _, _, _, _, _, _] _), (_, Cl [_] _), (_, Cl [_] _), (_, Cl [_] _), (_, Cl [_] _), (_, Cl [_] _), (_, Cl [_] _), _, _, _, _, (_, Cl [_, _, _, _] _), (_, Cl [_] _)]) hf _ => ?_)
                | refine a_store (i := 11) rfl rfl rfl rfl rfl Ty.sz_22 rfl hp rfl (by first | decide | (simp; done) | (simp; omega)) (fun w14 (hp : Hp w14 [(_, Cl [_, _, _, _, _] _), _, _, (_, Cl [_, _, _, _, _, _, _, _, _] _), (_, Cl [_] _), (_, Cl [_] _), (_, Cl [_] _), (_, Cl [_] _), (_, Cl [_] _), (_, Cl [_] _), _, _, _, _, (_, Cl [_, _, _, _] _), (_, Cl [_] _)]) hf _ => ?_)
                | refine a_store (i := 12) rfl rfl rfl rfl rfl Ty.sz_22 rfl hp rfl (by first | decide | (simp; done) | (simp; omega)) (fun w14 (hp : Hp w14 [(_, Cl [_, _, _, _, _] _), _, _, (_, Cl [_, _, _, _, _, _, _, _, _] _), (_, Cl [_] _), (_, Cl [_] _), (_, Cl [_] _), (_, Cl [_] _), (_, Cl [_] _), (_, Cl [_] _), _, _, _, _, (_, Cl [_, _, _, _] _), (_, Cl [_] _)]) hf _ => ?_)
                | refine a_store (i := 13) rfl rfl rfl rfl rfl Ty.sz_22 rfl hp rfl (by first | decide | (simp; done) | (simp; omega)) (fun w14 (hp : Hp w14 [(_, Cl [_, _, _, _, _] _), _, _, (_, Cl [_, _, _, _, _, _, _, _, _] _), (_, Cl [_] _), (_, Cl [_] _), (_, Cl [_] _), (_, Cl [_] _), (_, Cl [_] _), (_, Cl [_] _), _, _, _, _, (_, Cl [_, _, _, _] _), (_, Cl [_] _)]) hf _ => ?_)
                | refine a_store (i := 14) rfl rfl rfl rfl rfl Ty.sz_22 rfl hp rfl (by first | decide | (simp; done) | (simp; omega)) (fun w14 (hp : Hp w14 [(_, Cl [_, _, _, _, _] _), _, _, (_, Cl [_, _, _, _, _, _, _, _, _] _), (_, Cl [_] _), (_, Cl [_] _), (_, Cl [_] _), (_, Cl [_] _), (_, Cl [_] _), (_, Cl [_] _), _, _, _, _, (_, Cl [_, _, _, _] _), (_, Cl [_] _)]) hf _ => ?_)
                | refine a_store (i := 15) rfl rfl rfl rfl rfl Ty.sz_22 rfl hp rfl (by first | decide | (simp; done) | (simp; omega)) (fun w14 (hp : Hp w14 [(_, Cl [_, _, _, _, _] _), _, _, (_, Cl [_, _, _, _, _, _, _, _, _] _), (_, Cl [_] _), (_, Cl [_] _), (_, Cl [_] _), (_, Cl [_] _), (_, Cl [_] _), (_, Cl [_] _), _, _, _, _, (_, Cl [_, _, _, _] _), (_, Cl [_] _)]) hf _ => ?_)
              have hF := hF.step hf (by intro y hy; simp only [List.mem_cons, List.not_mem_nil, or_false] at hy; subst hy; first | (exact Or.inr (by omega)) | (exact Or.inl (by simp)))
              refine Ls_nil (Th_n (hK21 _ _ ?_))
              refine Wp_seq fun K22 hK22 => ?_
              refine Wp_region ?_
              refine Ls_a (wtd0 rfl) ?_
              first
                | refine a_store (i := 0) rfl rfl rfl rfl rfl Ty.sz_45 rfl hp rfl (by first | decide | (simp; done) | (simp; omega)) (fun w15 (hp : Hp w15 [(_, Cl [_, _, _, _, _] _), _, _, (_, Cl [_, _, _, _, _, _, _, _, _] _), (_, Cl [_] _), (_, Cl [_] _), (_, Cl [_] _), (_, Cl [_] _), (_, Cl [_] _), (_, Cl [_] _), _, _, _, _, (_, Cl [_, _, _, _] _), (_, Cl [_] _)]) hf _ => ?_)
                | refine a_store (i := 1) rfl rfl rfl rfl rfl Ty.sz_45 rfl hp rfl (by first | decide | (simp; done) | (simp; omega)) (fun w15 (hp : Hp w15 [(_, Cl [_, _, _, _, _] _), _, _, (_, Cl [_, _, _, _, _, _, _, _, _] _), (_, Cl [_] _), (_, Cl [_] _), (_, Cl [_] _), (_, Cl [_] _), (_, Cl [_] _), (_, Cl [_] _), _, _, _, _, (_, Cl [_, _, _, _] _), (_, Cl [_] _)]) hf _ => ?_)
                | refine a_store (i := 2) rfl rfl rfl rfl rfl Ty.sz_45 rfl hp rfl (by first | decide | (simp; done) | (simp; omega)) (fun w15 (hp : Hp w15 [(_, Cl [_, _, _, _, _] _), _, _, (_, Cl [_, _, _, _, _, _, _, _, _] _), (_, Cl [_] _), (_, Cl [_] _), (_, Cl [_] _), (_, Cl [_] _), (_, Cl [_] _), (_, Cl [_] _), _, _, _, _, (_, Cl [_, _, _, _] _), (_, Cl [_] _)]) hf _ => ?_)
                | refine a_store (i := 3) rfl rfl rfl rfl rfl Ty.sz_45 rfl hp rfl (by first | decide | (simp; done) | (simp; omega)) (fun w15 (hp : Hp w15 [(_, Cl [_, _, _, _, _] _), _, _, (_, Cl [_, _, _, _, _, _, _, _, _] _), (_, Cl [_] _), (_, Cl [_] _), (_, Cl [_] _), (_, Cl [_] _), (_, Cl [_] _), (_, Cl [_] _), _, _, _, _, (_, Cl [_, _, _, _] _), (_, Cl [_] _)]) hf _ => ?_)
                | refine a_store (i := 4) rfl rfl rfl rfl rfl Ty.sz_45 rfl hp rfl (by first | decide | (simp; done) | (simp; omega)) (fun w15 (hp : Hp w15 [(_, Cl [_, _, _, _, _] _), _, _, (_, Cl [_, _, _, _, _, _, _, _, _] _), (_, Cl [_] _), (_, Cl [_] _), (_, Cl [_] _), (_, Cl [_] _), (_, Cl [_] _), (_, Cl [_] _), _, _, _, _, (_, Cl [_, _, _, _] _), (_, Cl [_] _)]) hf _ => ?_)
                | refine a_store (i := 5) rfl rfl rfl rfl rfl Ty.sz_45 rfl hp rfl (by first | decide | (simp; done) | (simp; omega)) (fun w15 (hp : Hp w15 [(_, Cl [_, _, _, _, _] _), _, _, (_, Cl [_, _, _, _, _, _, _, _, _] _), (_, Cl [_] _), (_, Cl [_] _), (_, Cl [_] _), (_, Cl [_] _), (_, Cl [_] _), (_, Cl [_] _), _, _, _, _, (_, Cl [_, _, _, _] _), (_, Cl [_] _)]) hf _ => ?_)
                | refine a_store (i := 6) rfl rfl rfl rfl rfl Ty.sz_45 rfl hp rfl (by first | decide | (simp; done) | (simp; omega)) (fun w15 (hp : Hp w15 [(_, Cl [_, _, _, _, _] _), _, _, (_, Cl [_, _, _, _, _, _, _, _, _] _), (_, Cl [_] _), (_, Cl [_] _), (_, Cl [_] _), (_, Cl [_] _), (_, Cl [_] _), (_, Cl [_] _), _, _, _, _, (_, Cl [_, _, _, _] _), (_, Cl [_] _)]) hf _ => ?_)
                | refine a_store (i := 7) rfl rfl rfl rfl rfl Ty.sz_45 rfl hp rfl (by first | decide | (simp; done) | (simp; omega)) (fun w15 (hp : Hp w15 [(_, Cl [_, _, _, _, _] _), _, _, (_, Cl [_, _, _, _, _, _, _, _, _] _), (_, Cl [_] _), (_, Cl [_] _), (_, Cl [_] _), (_, Cl [_] _), (_, Cl [_] _), (_, Cl [_] _), _, _, _, _, (_, Cl [_, _, _, _] _), (_, Cl [_] _)]) hf _ => ?_)
                | refine a_store (i := 8) rfl rfl rfl rfl rfl Ty.sz_45 rfl hp rfl (by first | decide | (simp; done) | (simp; omega)) (fun w15 (hp : Hp w15 [(_, Cl [_, _, _, _, _] _), _, _, (_, Cl [_, _, _, _, _, _, _, _, _] _), (_, Cl [_] _), (_, Cl [_] _), (_, Cl [_] _), (_, Cl [_] _), (_, Cl [_] _), (_, Cl [_] _), _, _, _, _, (_, Cl [_, _, _, _] _), (_, Cl [_] _)]) hf _ => ?_)
                | refine a_store (i := 9) rfl rfl rfl rfl rfl Ty.sz_45 rfl hp rfl (by first | decide | (simp; done) | (simp; omega)) (fun w15 (hp : Hp w15 [(_, Cl [_, _, _, _, _] _), _, _, (_, Cl [_, _, _, _, _, _, _, _, _] _), (_, Cl [_] _), (_, Cl [_] _), (_, Cl [_] _), (_, Cl [_] _), (_, Cl [_] _), (_, Cl [_] _), _, _, _, _, (_, Cl [_, _, _, _] _), (_, Cl [_] _)]) hf _ => ?_)
                | refine a_store (i := 10) rfl rfl rfl rfl rfl Ty.sz_45 rfl hp rfl (by first | decide | (simp; done) | (simp; omega)) (fun w15 (hp : Hp w15 [(_, Cl [_, _, _, _, _] _), _, _, (_, Cl [_, _, _, _, _, _, _, _, _] _), (_, Cl [_] _), (_, Cl [_] _), (_, Cl [_] _), (_, Cl [_] _), (_, Cl [_] _), (_, Cl [_] _), _, _, _, _, (_, Cl [_, _, _, _] _), (_, Cl [_] _)]) hf _ => ?_)
                | refine a_store (i := 11) rfl rfl rfl rfl rfl Ty.sz_45 rfl hp rfl (by first | decide | (simp; done) | (simp; omega)) (fun w15 (hp : Hp w15 [(_, Cl [_, _, _, _, _] _), _, _, (_, Cl [_, _, _, _, _, _, _, _, _] _), (_, Cl [_] _), (_, Cl [_] _), (_, Cl [_] _), (_, Cl [_] _), (_, Cl [_] _), (_, Cl [_] _), _, _, _, _, (_, Cl [_, _, _, _] _), (_, Cl [_] _)]) hf _ => ?_)
                | refine a_store (i := 12) rfl rfl rfl rfl rfl Ty.sz_45 rfl hp rfl (by first | decide | (simp; done) | (simp; omega)) (fun w15 (hp : Hp w15 [(_, Cl [_, _, _, _, _] _), _, _, (_, Cl [_, _, _, _, _, _, _, _, _] _), (_, Cl [_] _), (_, Cl [_] _), (_, Cl [_] _), (_, Cl [_] _), (_, Cl [_] _), (_, Cl [_] _), _, _, _, _, (_, Cl [_, _, _, _] _), (_, Cl [_] _)]) hf _ => ?_)
                | refine a_store (i := 13) rfl rfl rfl rfl rfl Ty.sz_45 rfl hp rfl (by first | decide | (simp; done) | (simp; omega)) (fun w15 (hp : Hp w15 [(_, Cl [_, _, _, _, _] _), _, _, (_, Cl [_, _, _, _, _, _, _, _, _] _), (_, Cl [_] _), (_, Cl [_] _), (_, Cl [_] _), (_, Cl [_] _), (_, Cl [_] _), (_, Cl [_] _), _, _, _, _, (_, Cl [_, _, _, _] _), (_, Cl [_] _)]) hf _ => ?_)
                | refine a_store (i := 14) rfl rfl rfl rfl rfl Ty.sz_45 rfl hp rfl (by first | decide | (simp; done) | (simp; omega)) (fun w15 (hp : Hp w15 [(_, Cl [_, _, _, _, _] _), _, _, (_, Cl [_, _, _, _, _, _, _, _, _] _), (_, Cl [_] _), (_, Cl [_] _), (_, Cl [_] _), (_, Cl [_] _), (_, Cl [_] _), (_, Cl [_] _), _, _, _, _, (_, Cl [_, _, _, _] _), (_, Cl [_] _)]) hf _ => ?_)
                | refine a_store (i := 15) rfl rfl rfl rfl rfl Ty.sz_45 rfl hp rfl (by first | decide | (simp; done) | (simp; omega)) (fun w15 (hp : Hp w15 [(_, Cl [_, _, _, _, _] _), _, _, (_, Cl [_, _, _, _, _, _, _, _, _] _), (_, Cl [_] _), (_, Cl [_] _), (_, Cl [_] _), (_, Cl [_] _), (_, Cl [_] _), (_, Cl [_] _), _, _, _, _, (_, Cl [_, _, _, _] _), (_, Cl [_] _)]) hf _ => ?_)
              have hF := hF.step hf (by intro y hy; simp only [List.mem_cons, List.not_mem_nil, or_false] at hy; subst hy; first | (exact Or.inr (by omega)) | (exact Or.inl (by simp)))
              refine Ls_a (wtd0 rfl) ?_
              first
                | refine a_store (i := 0) rfl rfl rfl rfl rfl Ty.sz_3 rfl hp rfl (by first | decide | (simp; done) | (simp; omega)) (fun w16 (hp : Hp w16 [(_, Cl [_, _, _, _, _] _), _, _, (_, Cl [_, _, _, _, _, _, _, _, _] _), (_, Cl [_] _), (_, Cl [_] _), (_, Cl [_] _), (_, Cl [_] _), (_, Cl [_] _), (_, Cl [_] _), _, _, _, _, (_, Cl [_, _, _, _] _), (_, Cl [_] _)]) hf _ => ?_)
                | refine a_store (i := 1) rfl rfl rfl rfl rfl Ty.sz_3 rfl hp rfl (by first | decide | (simp; done) | (simp; omega)) (fun w16 (hp : Hp w16 [(_, Cl [_, _, _, _, _] _), _, _, (_, Cl [_, _, _, _, _, _, _, _, _] _), (_, Cl [_] _), (_, Cl [_] _), (_, Cl [_] _), (_, Cl [_] _), (_, Cl [_] _), (_, Cl [_] _), _, _, _, _, (_, Cl [_, _, _, _] _), (_, Cl [_] _)]) hf _ => ?_)
                | refine a_store (i := 2) rfl rfl rfl rfl rfl Ty.sz_3 rfl hp rfl (by first | decide | (simp; done) | (simp; omega)) (fun w16 (hp : Hp w16 [(_, Cl [_, _, _, _, _] _), _, _, (_, Cl [_, _, _, _, _, _, _, _, _] _), (_, Cl [_] _), (_, Cl [_] _), (_, Cl [_] _), (_, Cl [_] _), (_, Cl [_] _), (_, Cl [_] _), _, _, _, _, (_, Cl [_, _, _, _] _), (_, Cl [_] _)]) hf _ => ?_)
                | refine a_store (i := 3) rfl rfl rfl rfl rfl Ty.sz_3 rfl hp rfl (by first | decide | (simp; done) | (simp; omega)) (fun w16 (hp : Hp w16 [(_, Cl [_, _, _, _, _] _), _, _, (_, Cl [_, _, _, _, _, _, _, _, _] _), (_, Cl [_] _), (_, Cl [_] _), (_, Cl [_] _), (_, Cl [_] _), (_, Cl [_] _), (_, Cl [_] _), _, _, _, _, (_, Cl [_, _, _, _] _), (_, Cl [_] _)]) hf _ => ?_)
                | refine a_store (i := 4) rfl rfl rfl rfl rfl Ty.sz_3 rfl hp rfl (by first | decide | (simp; done) | (simp; omega)) (fun w16 (hp : Hp w16 [(_, Cl [_, _, _, _, _] _), _, _, (_, Cl [_, _, _, _, _, _, _, _, _] _), (_, Cl [_] _), (_, Cl [_] _), (_, Cl [_] _), (_, Cl [_] _), (_, Cl [_] _), (_, Cl [_] _), _, _, _, _, (_, Cl [_, _, _, _] _), (_, Cl [_] _)]) hf _ => ?_)
                | refine a_store (i := 5) rfl rfl rfl rfl rfl Ty.sz_3 rfl hp rfl (by first | decide | (simp; done) | (simp; omega)) (fun w16 (hp : Hp w16 [(_, Cl [_, _, _, _, _] _), _, _, (_, Cl [_, _, _, _, _, _, _, _, _] _), (_, Cl [_] _), (_, Cl [_] _), (_, Cl [_] _), (_, Cl [_] _), (_, Cl [_] _), (_, Cl [_] _), _, _, _, _, (_, Cl [_, _, _, _] _), (_, Cl [_] _)]) hf _ => ?_)
                | refine a_store (i := 6) rfl rfl rfl rfl rfl Ty.sz_3 rfl hp rfl (by first | decide | (simp; done) | (simp; omega)) (fun w16 (hp : Hp w16 [(_, Cl [_, _, _, _, _] _), _, _, (_, Cl [_, _, _, _, _, _, _, _, _] _), (_, Cl [_] _), (_, Cl [_] _), (_, Cl [_] _), (_, Cl [_] _), (_, Cl [_] _), (_, Cl [_] _), _, _, _, _, (_, Cl [_, _, _, _] _), (_, Cl [_] _)]) hf _ => ?_)
                | refine a_store (i := 7) rfl rfl rfl rfl rfl Ty.sz_3 rfl hp rfl (by first | decide | (simp; done) | (simp; omega)) (fun w16 (hp : Hp w16 [(_, Cl [_, _, _, _, _] _), _, _, (_, Cl [_, _, _, _, _, _, _, _, _] _), (_, Cl [_] _), (_, Cl [_] _), (_, Cl [_] _), (_, Cl [_] _), (_, Cl [_] _), (_, Cl [_] _), _, _, _, _, (_, Cl [_, _, _, _] _), (_, Cl [_] _)]) hf _ => ?_)
                | refine a_store (i := 8) rfl rfl rfl rfl rfl Ty.sz_3 rfl hp rfl (by first | decide | (simp; done) | (simp; omega)) (fun w16 (hp : Hp w16 [(_, Cl [_, _, _, _, _] _), _, _, (_, Cl [_, _, _, _, _, _, _, _, _] _), (_, Cl [_] _), (_, Cl [_] _), (_, Cl [_] _), (_, Cl [_] _), (_, Cl [_] _), (_, Cl [_] _), _, _, _, _, (_, Cl [_, _, _, _] _), (_, Cl [_] _)]) hf _ => ?_)
                | refine a_store (i := 9) rfl rfl rfl rfl rfl Ty.sz_3 rfl hp rfl (by first | decide | (simp; done) | (simp; omega)) (fun w16 (hp : Hp w16 [(_, Cl [_, _, _, _, _] _), _, _, (_, Cl [_, _, _, _, _, _, _, _, _] _), (_, Cl [_] _), (_, Cl [_] _), (_, Cl [_] _), (_, Cl [_] _), (_, Cl [_] _), (_, Cl [_] _), _, _, _, _, (_, Cl [_, _, _, _] _), (_, Cl [_] _)]) hf _ => ?_)
                | refine a_store (i := 10) rfl rfl rfl rfl rfl Ty.sz_3 rfl hp rfl (by first | decide | (simp; done) | (simp; omega)) (fun w16 (hp : Hp w16 [(_, Cl [_, _, _, _, _] _), _, _, (_, Cl [_, _, _, _, _, _, _, _, _] _), (_, Cl [_] _), (_, Cl [_] _), (_, Cl [_] _), (_, Cl [_] _), (_, Cl [_] _), (_, Cl [_] _), _, _, _, _, (_, Cl [_, _, _, _] _), (_, Cl [_] _)]) hf _ => ?_)
                | refine a_store (i := 11) rfl rfl rfl rfl rfl Ty.sz_3 rfl hp rfl (by first | decide | (simp; done) | (simp; omega)) (fun w16 (hp : Hp w16 [(_, Cl [_, _, _, _, _] _), _, _, (_, Cl [_, _, _, _, _, _, _, _, _] _), (_, Cl [_] _), (_, Cl [_] _), (_, Cl [_] _), (_, Cl [_] _), (_, Cl [_] _), (_, Cl [_] _), _, _, _, _, (_, Cl [_, _, _, _] _), (_, Cl [_] _)]) hf _ => ?_)
                | refine a_store (i := 12) rfl rfl rfl rfl rfl Ty.sz_3 rfl hp rfl (by first | decide | (simp; done) | (simp; omega)) (fun w16 (hp : Hp w16 [(_, Cl [_, _, _, _, _] _), _, _, (_, Cl [_, _, _, _, _, _, _, _, _] _), (_, Cl [_] _), (_, Cl [_] _), (_, Cl [_] _), (_, Cl [_] _), (_, Cl [_] _), (_, Cl [_] _), _, _, _, _, (_, Cl [_, _, _, _] _), (_, Cl [_] _)]) hf _ => ?_)
                | refine a_store (i := 13) rfl rfl rfl rfl rfl Ty.sz_3 rfl hp rfl (by first | decide | (simp; done) | (simp; omega)) (fun w16 (hp : Hp w16 [(_, Cl [_, _, _, _, _] _), _, _, (_, Cl [_, _, _, _, _, _, _, _, _] _), (_, Cl [_] _), (_, Cl [_] _), (_, Cl [_] _), (_, Cl [_] _), (_, Cl [_] _), (_, Cl [_] _), _, _, _, _, (_, Cl [_, _, _, _] _), (_, Cl [_] _)]) hf _ => ?_)
                | refine a_store (i := 14) rfl rfl rfl rfl rfl Ty.sz_3 rfl hp rfl (by first | decide | (simp; done) | (simp; omega)) (fun w16 (hp : Hp w16 [(_, Cl [_, _, _, _, _] _), _, _, (_, Cl [_, _, _, _, _, _, _, _, _] _), (_, Cl [_] _), (_, Cl [_] _), (_, Cl [_] _), (_, Cl [_] _), (_, Cl [_] _), (_, Cl [_] _), _, _, _, _, (_, Cl [_, _, _, _] _), (_, Cl [_] _)]) hf _ => ?_)
                | refine a_store (i := 15) rfl rfl rfl rfl rfl Ty.sz_3 rfl hp rfl (by first | decide | (simp; done) | (simp; omega)) (fun w16 (hp : Hp w16 [(_, Cl [_, _, _, _, _] _), _, _, (_, Cl [_, _, _, _, _, _, _, _, _] _), (_, Cl [_] _), (_, Cl [_] _), (_, Cl [_] _), (_, Cl [_] _), (_, Cl [_] _), (_, Cl [_] _), _, _, _, _, (_, Cl [_, _, _, _] _), (_, Cl [_] _)]) hf _ => ?_)
              have hF := hF.step hf (by intro y hy; simp only [List.mem_cons, List.not_mem_nil, or_false] at hy; subst hy; first | (exact Or.inr (by omega)) | (exact Or.inl (by simp)))
              refine Ls_nil (Th_n (hK22 _ _ ?_))
              refine Wp_region ?_
              first
                | refine Ls_y (wtd0 rfl) rfl rfl (y_load (i := 0) rfl rfl Ty.pl_29 (fun _ e => e ▸ hp) rfl rfl) ?_
                | refine Ls_y (wtd0 rfl) rfl rfl (y_load (i := 1) rfl rfl Ty.pl_29 (fun _ e => e ▸ hp) rfl rfl) ?_
                | refine Ls_y (wtd0 rfl) rfl rfl (y_load (i := 2) rfl rfl Ty.pl_29 (fun _ e => e ▸ hp) rfl rfl) ?_
                | refine Ls_y (wtd0 rfl) rfl rfl (y_load (i := 3) rfl rfl Ty.pl_29 (fun _ e => e ▸ hp) rfl rfl) ?_
                | refine Ls_y (wtd0 rfl) rfl rfl (y_load (i := 4) rfl rfl Ty.pl_29 (fun _ e => e ▸ hp) rfl rfl) ?_
                | refine Ls_y (wtd0 rfl) rfl rfl (y_load (i := 5) rfl rfl Ty.pl_29 (fun _ e => e ▸ hp) rfl rfl) ?_
                | refine Ls_y (wtd0 rfl) rfl rfl (y_load (i := 6) rfl rfl Ty.pl_29 (fun _ e => e ▸ hp) rfl rfl) ?_
                | refine Ls_y (wtd0 rfl) rfl rfl (y_load (i := 7) rfl rfl Ty.pl_29 (fun _ e => e ▸ hp) rfl rfl) ?_
                | refine Ls_y (wtd0 rfl) rfl rfl (y_load (i := 8) rfl rfl Ty.pl_29 (fun _ e => e ▸ hp) rfl rfl) ?_
                | refine Ls_y (wtd0 rfl) rfl rfl (y_load (i := 9) rfl rfl Ty.pl_29 (fun _ e => e ▸ hp) rfl rfl) ?_
                | refine Ls_y (wtd0 rfl) rfl rfl (y_load (i := 10) rfl rfl Ty.pl_29 (fun _ e => e ▸ hp) rfl rfl) ?_
                | refine Ls_y (wtd0 rfl) rfl rfl (y_load (i := 11) rfl rfl Ty.pl_29 (fun _ e => e ▸ hp) rfl rfl) ?_
                | refine Ls_y (wtd0 rfl) rfl rfl (y_load (i := 12) rfl rfl Ty.pl_29 (fun _ e => e ▸ hp) rfl rfl) ?_
                | refine Ls_y (wtd0 rfl) rfl rfl (y_load (i := 13) rfl rfl Ty.pl_29 (fun _ e => e ▸ hp) rfl rfl) ?_
                | refine Ls_y (wtd0 rfl) rfl rfl (y_load (i := 14) rfl rfl Ty.pl_29 (fun _ e => e ▸ hp) rfl rfl) ?_
                | refine Ls_y (wtd0 rfl) rfl rfl (y_load (i := 15) rfl rfl Ty.pl_29 (fun _ e => e ▸ hp) rfl rfl) ?_
              refine Ls_y (wtd0 rfl) rfl rfl (y_fld rfl rfl Ty.fo_60_1) ?_
              first
                | refine Ls_y (wtd0 rfl) rfl rfl (y_load (i := 0) rfl rfl Ty.pl_32 (fun _ e => e ▸ hp) rfl rfl) ?_
                | refine Ls_y (wtd0 rfl) rfl rfl (y_load (i := 1) rfl rfl Ty.pl_32 (fun _ e => e ▸ hp) rfl rfl) ?_
                | refine Ls_y (wtd0 rfl) rfl rfl (y_load (i := 2) rfl rfl Ty.pl_32 (fun _ e => e ▸ hp) rfl rfl) ?_
                | refine Ls_y (wtd0 rfl) rfl rfl (y_load (i := 3) rfl rfl Ty.pl_32 (fun _ e => e ▸ hp) rfl rfl) ?_
                | refine Ls_y (wtd0 rfl) rfl rfl (y_load (i := 4) rfl rfl Ty.pl_32 (fun _ e => e ▸ hp) rfl rfl) ?_
                | refine Ls_y (wtd0 rfl) rfl rfl (y_load (i := 5) rfl rfl Ty.pl_32 (fun _ e => e ▸ hp) rfl rfl) ?_
                | refine Ls_y (wtd0 rfl) rfl rfl (y_load (i := 6) rfl rfl Ty.pl_32 (fun _ e => e ▸ hp) rfl rfl) ?_
                | refine Ls_y (wtd0 rfl) rfl rfl (y_load (i := 7) rfl rfl Ty.pl_32 (fun _ e => e ▸ hp) rfl rfl) ?_
                | refine Ls_y (wtd0 rfl) rfl rfl (y_load (i := 8) rfl rfl Ty.pl_32 (fun _ e => e ▸ hp) rfl rfl) ?_
                | refine Ls_y (wtd0 rfl) rfl rfl (y_load (i := 9) rfl rfl Ty.pl_32 (fun _ e => e ▸ hp) rfl rfl) ?_
                | refine Ls_y (wtd0 rfl) rfl rfl (y_load (i := 10) rfl rfl Ty.pl_32 (fun _ e => e ▸ hp) rfl rfl) ?_
                | refine Ls_y (wtd0 rfl) rfl rfl (y_load (i := 11) rfl rfl Ty.pl_32 (fun _ e => e ▸ hp) rfl rfl) ?_
                | refine Ls_y (wtd0 rfl) rfl rfl (y_load (i := 12) rfl rfl Ty.pl_32 (fun _ e => e ▸ hp) rfl rfl) ?_
                | refine Ls_y (wtd0 rfl) rfl rfl (y_load (i := 13) rfl rfl Ty.pl_32 (fun _ e => e ▸ hp) rfl rfl) ?_
                | refine Ls_y (wtd0 rfl) rfl rfl (y_load (i := 14) rfl rfl Ty.pl_32 (fun _ e => e ▸ hp) rfl rfl) ?_
                | refine Ls_y (wtd0 rfl) rfl rfl (y_load (i := 15) rfl rfl Ty.pl_32 (fun _ e => e ▸ hp) rfl rfl) ?_
              first
                | refine Ls_y (wtd0 rfl) rfl rfl (y_add rfl rfl rfl (wf_u32 (by omega))) ?_
                | refine Ls_y (wtd0 rfl) rfl rfl (y_add rfl rfl rfl rfl) ?_
              refine Ls_y (wtd0 rfl) rfl rfl (y_nil rfl rfl) ?_
              refine Ls_y (wtd0 rfl) rfl rfl (y_fld rfl rfl Ty.fo_53_6) ?_
              refine Ls_a (wtd0 rfl) ?_
              first
                | refine a_store (i := 0) rfl rfl rfl rfl rfl Ty.sz_32 rfl hp rfl (by first | decide | (simp; done) | (simp; omega)) (fun w17 (hp : Hp w17 [(_, Cl [_, _, _, _, _] _), _, _, (_, Cl [_, _, _, _, _, _, _, _, _] _), (_, Cl [_] _), (_, Cl [_] _), (_, Cl [_] _), (_, Cl [_] _), (_, Cl [_] _), (_, Cl [_] _), _, _, _, _, (_, Cl [_, _, _, _] _), (_, Cl [_] _)]) hf _ => ?_)
                | refine a_store (i := 1) rfl rfl rfl rfl rfl Ty.sz_32 rfl hp rfl (by first | decide | (simp; done) | (simp; omega)) (fun w17 (hp : Hp w17 [(_, Cl [_, _, _, _, _] _), _, _, (_, Cl [_, _, _, _, _, _, _, _, _] _), (_, Cl [_] _), (_, Cl [_] _), (_, Cl [_] _), (_, Cl [_] _), (_, Cl [_] _), (_, Cl [_] _), _, _, _, _, (_, Cl [_, _, _, _] _), (_, Cl [_] _)]) hf _ => ?_)
                | refine a_store (i := 2) rfl rfl rfl rfl rfl Ty.sz_32 rfl hp rfl (by first | decide | (simp; done) | (simp; omega)) (fun w17 (hp : Hp w17 [(_, Cl [_, _, _, _, _] _), _, _, (_, Cl [_, _, _, _, _, _, _, _, _] _), (_, Cl [_] _), (_, Cl [_] _), (_, Cl [_] _), (_, Cl [_] _), (_, Cl [_] _), (_, Cl [_] _), _, _, _, _, (_, Cl [_, _, _, _] _), (_, Cl [_] _)]) hf _ => ?_)
                | refine a_store (i := 3) rfl rfl rfl rfl rfl Ty.sz_32 rfl hp rfl (by first | decide | (simp; done) | (simp; omega)) (fun w17 (hp : Hp w17 [(_, Cl [_, _, _, _, _] _), _, _, (_, Cl [_, _, _, _, _, _, _, _, _] _), (_, Cl [_] _), (_, Cl [_] _), (_, Cl [_] _), (_, Cl [_] _), (_, Cl [_] _), (_, Cl [_] _), _, _, _, _, (_, Cl [_, _, _, _] _), (_, Cl [_] _)]) hf _ => ?_)
                | refine a_store (i := 4) rfl rfl rfl rfl rfl Ty.sz_32 rfl hp rfl (by first | decide | (simp; done) | (simp; omega)) (fun w17 (hp : Hp w17 [(_, Cl [_, _, _, _, _] _), _, _, (_, Cl [_, _, _, _, _, _, _, _, _] _), (_, Cl [_] _), (_, Cl [_] _), (_, Cl [_] _), (_, Cl [_] _), (_, Cl [_] _), (_, Cl [_] _), _, _, _, _, (_, Cl [_, _, _, _] _), (_, Cl [_] _)]) hf _ => ?_)
                | refine a_store (i := 5) rfl rfl rfl rfl rfl Ty.sz_32 rfl hp rfl (by first | decide | (simp; done) | (simp; omega)) (fun w17 (hp : Hp w17 [(_, Cl [_, _, _, _, _] _), _, _, (_, Cl [_, _, _, _, _, _, _, _, _] _), (_, Cl [_] _), (_, Cl [_] _), (_, Cl [_] _), (_, Cl [_] _), (_, Cl [_] _), (_, Cl [_] _), _, _, _, _, (_, Cl [_, _, _, _] _), (_, Cl [_] _)]) hf _ => ?_)
                | refine a_store (i := 6) rfl rfl rfl rfl rfl Ty.sz_32 rfl hp rfl (by first | decide | (simp; done) | (simp; omega)) (fun w17 (hp : Hp w17 [(_, Cl [_, _, _, _, _] _), _, _, (_, Cl [_, _, _, _, _, _, _, _, _] _), (_, Cl [_] _), (_, Cl [_] _), (_, Cl [_] _), (_, Cl [_] _), (_, Cl [_] _), (_, Cl [_] _), _, _, _, _, (_, Cl [_, _, _, _] _), (_, Cl [_] _)]) hf _ => ?_)
                | refine a_store (i := 7) rfl rfl rfl rfl rfl Ty.sz_32 rfl hp rfl (by first | decide | (simp; done) | (simp; omega)) (fun w17 (hp : Hp w17 [(_, Cl [_, _, _, _, _] _), _, _, (_, Cl [_, _, _, _, _, _, _, _, _] _), (_, Cl [_] _), (_, Cl [_] _), (_, Cl [_] _), (_, Cl [_] _), (_, Cl [_] _), (_, Cl [_] _), _, _, _, _, (_, Cl [_, _, _, _] _), (_, Cl [_] _)]) hf _ => ?_)
                | refine a_store (i := 8) rfl rfl rfl rfl rfl Ty.sz_32 rfl hp rfl (by first | decide | (simp; done) | (simp; omega)) (fun w17 (hp : Hp w17 [(_, Cl [_, _, _, _, _] _), _, _, (_, Cl [_, _, _, _, _, _, _, _, _] _), (_, Cl [_] _), (_, Cl [_] _), (_, Cl [_] _), (_, Cl [_] _), (_, Cl [_] _), (_, Cl [_] _), _, _, _, _, (_, Cl [_, _, _, _] _), (_, Cl [_] _)]) hf _ => ?_)
                | refine a_store (i := 9) rfl rfl rfl rfl rfl Ty.sz_32 rfl hp rfl (by first | decide | (simp; done) | (simp; omega)) (fun w17 (hp : Hp w17 [(_, Cl [_, _, _, _, _] _), _, _, (_, Cl [_, _, _, _, _, _, _, _, _] _), (_, Cl [_] _), (_, Cl [_] _), (_, Cl [_] _), (_, Cl [_] _), (_, Cl [_] _), (_, Cl [_] _), _, _, _, _, (_, Cl [_, _, _, _] _), (_, Cl [_] _)]) hf _ => ?_)
                | refine a_store (i := 10) rfl rfl rfl rfl rfl Ty.sz_32 rfl hp rfl (by first | decide | (simp; done) | (simp; omega)) (fun w17 (hp : Hp w17 [(_, Cl [_, _, _, _, _] _), _, _, (_, Cl [_, _, _, _, _, _, _, _, _] _), (_, Cl [_] _), (_, Cl [_] _), (_, Cl [_] _), (_, Cl [_] _), (_, Cl [_] _), (_, Cl [_] _), _, _, _, _, (_, Cl [_, _, _, _] _), (_, Cl [_] _)]) hf _ => ?_)
                | refine a_store (i := 11) rfl rfl rfl rfl rfl Ty.sz_32 rfl hp rfl (by first | decide | (simp; done) | (simp; omega)) (fun w17 (hp : Hp w17 [(_, Cl [_, _, _, _, _] _), _, _, (_, Cl [_, _, _, _, _, _, _, _, _] _), (_, Cl [_] _), (_, Cl [_] _), (_, Cl [_] _), (_, Cl [_] _), (_, Cl [_] _), (_, Cl [_] _), _, _, _, _, (_, Cl [_, _, _, _] _), (_, Cl [_] _)]) hf _ => ?_)
                | refine a_store (i := 12) rfl rfl rfl rfl rfl Ty.sz_32 rfl hp rfl (by first | decide | (simp; done) | (simp; omega)) (fun w17 (hp : Hp w17 [(_, Cl [_, _, _, _, _] _), _, _, (_, Cl [_, _, _, _, _, _, _, _, _] _), (_, Cl [_] _), (_, Cl [_] _), (_, Cl [_] _), (_, Cl [_] _), (_, Cl [_] _), (_, Cl [_] _), _, _, _, _, (_, Cl [_, _, _, _] _), (_, Cl [_] _)]) hf _ => ?_)
                | refine a_store (i := 13) rfl rfl rfl rfl rfl Ty.sz_32 rfl hp rfl (by first | decide | (simp; done) | (simp; omega)) (fun w17 (hp : Hp w17 [(_, Cl [_, _, _, _, _] _), _, _, (_, Cl [_, _, _, _, _, _, _, _, _] _), (_, Cl [_] _), (_, Cl [_] _), (_, Cl [_] _), (_, Cl [_] _), (_, Cl [_] _), (_, Cl [_] _), _, _, _, _, (_, Cl [_, _, _, _] _), (_, Cl [_] _)]) hf _ => ?_)
                | refine a_store (i := 14) rfl rfl rfl rfl rfl Ty.sz_32 rfl hp rfl (by first | decide | (simp; done) | (simp; omega)) (fun w17 (hp : Hp w17 [(_, Cl [_, _, _, _, _] _), _, _, (_, Cl [_, _, _, _, _, _, _, _, _] _), (_, Cl [_] _), (_, Cl [_] _), (_, Cl [_] _), (_, Cl [_] _), (_, Cl [_] _), (_, Cl [_] _), _, _, _, _, (_, Cl [_, _, _, _] _), (_, Cl [_] _)]) hf _ => ?_)
                | refine a_store (i := 15) rfl rfl rfl rfl rfl Ty.sz_32 rfl hp rfl (by first | decide | (simp; done) | (simp; omega)) (fun w17 (hp : Hp w17 [(_, Cl [_, _, _, _, _] _), _, _, (_, Cl [_, _, _, _, _, _, _, _, _] _), (_, Cl [_] _), (_, Cl [_] _), (_, Cl [_] _), (_, Cl [_] _), (_, Cl [_] _), (_, Cl [_] _), _, _, _, _, (_, Cl [_, _, _, _] _), (_, Cl [_] _)]) hf _ => ?_)
              have hF := hF.step hf (by intro y hy; simp only [List.mem_cons, List.not_mem_nil, or_false] at hy; subst hy; first | (exact Or.inr (by omega)) | (exact Or.inl (by simp)))
              refine Ls_nil (Ib_n (Rd_n (i := 13) hp rfl (fun WE hp hf => ?_)))
              have hF := hF.step hf (by simp)
              have ef : fnext st (cg, ((J.head + kq : Nat) : Int), cf, cd) = ⟨st.l ++ [st.text ++ cd], [], 0, cg, ((J.head + kq : Nat) : Int).toNat + 1⟩ := by unfold fnext; rw [if_pos hlast]
              have hp := hp.addNone (Cl [] 5)
              rw [hJ0]
              refine ⟨⟨WE.heap.size, Nat.le_refl _, ⟨st.l ++ [st.text ++ cd], [], 0, cg, ((J.head + kq : Nat) : Int).toNat + 1⟩, by rw [← ef, ← findF_next hck hb]; exact hst, Nat.zero_le _, by simp only [List.length_append, List.length_cons, List.length_nil]; omega, Nat.zero_le _, A2, ca2, spa2, none, 0, [], x8_lt (hp.lt (i := 3) rfl) (hp.lt (i := 5) rfl) (hp.lt (i := 6) rfl) (hp.lt (i := 7) rfl) (hp.lt (i := 8) rfl) (hp.lt (i := 13) rfl) (fun g e => hp.lt (i := 10) (by rw [← e]; rfl)) (fun g e => by simp [blkOf] at e), by rw [List.length_append]; exact hA2, Ow.nil 1, hAn2, fun g e => by simp [blkOf] at e, ?_, hG.step hF (hX8 _ _ hAn hBn)⟩, _, hF, hNN⟩
              rw [List.length_append]
              exact hp.picks [0, 1, 2, 3, 4, 5, 6, 7, 8, 9, 10, 16, 12, 13] (by decide)
            · refine Ls_nil (Th_n (hK20 _ _ ?_))
              refine Wp_cond_f rfl ?_
              refine Wp_skip (Ib_n (Rd_n (i := 13) hp rfl (fun WE hp hf => ?_)))
              have hF := hF.step hf (by simp)
              have ef : fnext st (cg, ((J.head + kq : Nat) : Int), cf, cd) = ⟨st.l, st.text ++ cd, st.n + 1, cg, st.next⟩ := by unfold fnext; rw [if_neg (by simp only; exact fun h => h hlast)]
              rw [hJ0]
              refine ⟨⟨WE.heap.size, Nat.le_refl _, ⟨st.l, st.text ++ cd, st.n + 1, cg, st.next⟩, by rw [← ef, ← findF_next hck hb]; exact hst, by simp only; omega, by simp only; omega, by simp only [List.length_append]; omega, A, ca, spa, B2, cb2, spb2, x8_lt (hp.lt (i := 3) rfl) (hp.lt (i := 5) rfl) (hp.lt (i := 6) rfl) (hp.lt (i := 7) rfl) (hp.lt (i := 8) rfl) (hp.lt (i := 13) rfl) (fun g e => hp.lt (i := 10) (by rw [← e]; rfl)) (fun g e => hp.lt (i := 11) (by rw [← e]; rfl)), hA, by rw [List.length_append]; exact hB2, hAn, hBn2, ?_, hG.step hF (hX8 _ _ hAn hBn)⟩, _, hF, hNN⟩
              rw [List.length_append]
              exact (hp.picks [0, 1, 2, 3, 4, 5, 6, 7, 8, 9, 10, 11, 12, 13] (by decide))
  · rw [hJ0]
    refine ⟨Nat.le_refl _, findI J, rfl, Nat.zero_le _, Nat.zero_le _, Nat.zero_le _, none, 0, [], none, 0, [], ?_, Ow.nil 1, Ow.nil 1, fun g e => by simp [blkOf] at e, fun g e => by simp [blkOf] at e, hp, hF⟩
    have a0 := hp.lt (i := 3) rfl
    have a1 := hp.lt (i := 5) rfl
    have a2 := hp.lt (i := 6) rfl
    have a3 := hp.lt (i := 7) rfl
    have a4 := hp.lt (i := 8) rfl
    have a5 := hp.lt (i := 13) rfl
    intro x hx
    simp only [blkOf, Option.map_none, Option.toList_none, List.append_nil, List.mem_cons, List.not_mem_nil, or_false] at hx
    rcases hx with rfl | rfl | rfl | rfl | rfl | rfl <;> assumption
  · rw [hJ0] at hq
    obtain ⟨N, _, st, hst, _, _, _, A, ca, spa, B, cb, spb, _, hA, hB, hAn, hBn, hp, hF⟩ := hq
    obtain rfl : st = findJ D J := by rw [← hst, List.drop_length]; rfl
    have hp : Hp W' [(_, Cl [_, _, _, _, _] _), _, _, (_, Cl [_, _, _, _, _, _, _, _, _] _), (_, Cl [_] _), (_, Cl [_] _), (_, Cl [_] _), (_, Cl [_] _), (_, Cl [_] _), (_, Cl [_] _), _, _, _, _] := hp
    refine .inl ⟨_, 13, hp, rfl, ?_⟩
    intro W2 hp hf inst
    have hp : Hp W2 [(_, Cl [_, _, _, _, _] _), _, _, (_, Cl [_, _, _, _, _, _, _, _, _] _), (_, Cl [_] _), (_, Cl [_] _), (_, Cl [_] _), (_, Cl [_] _), (_, Cl [_] _), (_, Cl [_] _), _, _, _, _] := hp
    have hF := hF.step hf (by simp [hl0])
    refine Wp_seq fun K23 hK23 => ?_
    refine Wp_planF (fun W => Hp W (pickL (heapOf hp) [3, 4])) [(true, 0), (true, 1), (true, 2), (true, 3), (true, 4), (true, 5), (true, 6)] 7 Ty.mx_0 (by kernel_rfl) (by kernel_rfl) (by kernel_rfl) rfl ((hp.picks [3, 4] (by decide)).drew) ?_
    have hp := hp.drew
    have hF := hF.step0 (Fr.drew _)
    first
      | refine Pl_y rfl (wtd0 rfl) rfl rfl (y_load (i := 0) rfl rfl Ty.pl_29 (fun _ h => h) rfl rfl) ?_
      | refine Pl_y rfl (wtd0 rfl) rfl rfl (y_load (i := 1) rfl rfl Ty.pl_29 (fun _ h => h) rfl rfl) ?_
    first
      | refine Pl_y rfl (wtd0 rfl) rfl rfl (y_load (i := 0) rfl rfl Ty.pl_29 (fun _ h => h) rfl rfl) ?_
      | refine Pl_y rfl (wtd0 rfl) rfl rfl (y_load (i := 1) rfl rfl Ty.pl_29 (fun _ h => h) rfl rfl) ?_
    refine Pl_y rfl (wtd0 rfl) rfl rfl (y_nil rfl rfl) ?_
    refine Pl_y rfl (wtd0 rfl) rfl rfl (y_fld rfl rfl Ty.fo_53_6) ?_
    first
      | refine Pl_y rfl (wtd0 rfl) rfl rfl (y_load (i := 0) rfl rfl Ty.pl_32 (fun _ h => h) rfl rfl) ?_
      | refine Pl_y rfl (wtd0 rfl) rfl rfl (y_load (i := 1) rfl rfl Ty.pl_32 (fun _ h => h) rfl rfl) ?_
    refine Pl_y rfl (wtd0 rfl) rfl rfl (y_nil rfl rfl) ?_
    refine Pl_y rfl (wtd0 rfl) rfl rfl (y_fld rfl rfl Ty.fo_53_7) ?_
    refine Pl_nil (Fin_a rfl (wtd0 rfl) ?_)
    first
      | refine a_store (i := 0) rfl rfl rfl rfl rfl Ty.sz_32 rfl hp rfl (by first | decide | (simp; done) | (simp; omega)) (fun w9 (hp : Hp w9 [(_, Cl [_, _, _, _, _] _), _, _, (_, Cl [_, _, _, _, _, _, _, _, _] _), (_, Cl [_] _), (_, Cl [_] _), (_, Cl [_] _), (_, Cl [_] _), (_, Cl [_] _), (_, Cl [_] _), _, _, _, _]) hf _ => ?_)
      | refine a_store (i := 1) rfl rfl rfl rfl rfl Ty.sz_32 rfl hp rfl (by first | decide | (simp; done) | (simp; omega)) (fun w9 (hp : Hp w9 [(_, Cl [_, _, _, _, _] _), _, _, (_, Cl [_, _, _, _, _, _, _, _, _] _), (_, Cl [_] _), (_, Cl [_] _), (_, Cl [_] _), (_, Cl [_] _), (_, Cl [_] _), (_, Cl [_] _), _, _, _, _]) hf _ => ?_)
      | refine a_store (i := 2) rfl rfl rfl rfl rfl Ty.sz_32 rfl hp rfl (by first | decide | (simp; done) | (simp; omega)) (fun w9 (hp : Hp w9 [(_, Cl [_, _, _, _, _] _), _, _, (_, Cl [_, _, _, _, _, _, _, _, _] _), (_, Cl [_] _), (_, Cl [_] _), (_, Cl [_] _), (_, Cl [_] _), (_, Cl [_] _), (_, Cl [_] _), _, _, _, _]) hf _ => ?_)
      | refine a_store (i := 3) rfl rfl rfl rfl rfl Ty.sz_32 rfl hp rfl (by first | decide | (simp; done) | (simp; omega)) (fun w9 (hp : Hp w9 [(_, Cl [_, _, _, _, _] _), _, _, (_, Cl [_, _, _, _, _, _, _, _, _] _), (_, Cl [_] _), (_, Cl [_] _), (_, Cl [_] _), (_, Cl [_] _), (_, Cl [_] _), (_, Cl [_] _), _, _, _, _]) hf _ => ?_)
      | refine a_store (i := 4) rfl rfl rfl rfl rfl Ty.sz_32 rfl hp rfl (by first | decide | (simp; done) | (simp; omega)) (fun w9 (hp : Hp w9 [(_, Cl [_, _, _, _, _] _), _, _, (_, Cl [_, _, _, _, _, _, _, _, _] _), (_, Cl [_] _), (_, Cl [_] _), (_, Cl [_] _), (_, Cl [_] _), (_, Cl [_] _), (_, Cl [_] _), _, _, _, _]) hf _ => ?_)
      | refine a_store (i := 5) rfl rfl rfl rfl rfl Ty.sz_32 rfl hp rfl (by first | decide | (simp; done) | (simp; omega)) (fun w9 (hp : Hp w9 [(_, Cl [_, _, _, _, _] _), _, _, (_, Cl [_, _, _, _, _, _, _, _, _] _), (_, Cl [_] _), (_, Cl [_] _), (_, Cl [_] _), (_, Cl [_] _), (_, Cl [_] _), (_, Cl [_] _), _, _, _, _]) hf _ => ?_)
      | refine a_store (i := 6) rfl rfl rfl rfl rfl Ty.sz_32 rfl hp rfl (by first | decide | (simp; done) | (simp; omega)) (fun w9 (hp : Hp w9 [(_, Cl [_, _, _, _, _] _), _, _, (_, Cl [_, _, _, _, _, _, _, _, _] _), (_, Cl [_] _), (_, Cl [_] _), (_, Cl [_] _), (_, Cl [_] _), (_, Cl [_] _), (_, Cl [_] _), _, _, _, _]) hf _ => ?_)
      | refine a_store (i := 7) rfl rfl rfl rfl rfl Ty.sz_32 rfl hp rfl (by first | decide | (simp; done) | (simp; omega)) (fun w9 (hp : Hp w9 [(_, Cl [_, _, _, _, _] _), _, _, (_, Cl [_, _, _, _, _, _, _, _, _] _), (_, Cl [_] _), (_, Cl [_] _), (_, Cl [_] _), (_, Cl [_] _), (_, Cl [_] _), (_, Cl [_] _), _, _, _, _]) hf _ => ?_)
      | refine a_store (i := 8) rfl rfl rfl rfl rfl Ty.sz_32 rfl hp rfl (by first | decide | (simp; done) | (simp; omega)) (fun w9 (hp : Hp w9 [(_, Cl [_, _, _, _, _] _), _, _, (_, Cl [_, _, _, _, _, _, _, _, _] _), (_, Cl [_] _), (_, Cl [_] _), (_, Cl [_] _), (_, Cl [_] _), (_, Cl [_] _), (_, Cl [_] _), _, _, _, _]) hf _ => ?_)
      | refine a_store (i := 9) rfl rfl rfl rfl rfl Ty.sz_32 rfl hp rfl (by first | decide | (simp; done) | (simp; omega)) (fun w9 (hp : Hp w9 [(_, Cl [_, _, _, _, _] _), _, _, (_, Cl [_, _, _, _, _, _, _, _, _] _), (_, Cl [_] _), (_, Cl [_] _), (_, Cl [_] _), (_, Cl [_] _), (_, Cl [_] _), (_, Cl [_] _), _, _, _, _]) hf _ => ?_)
      | refine a_store (i := 10) rfl rfl rfl rfl rfl Ty.sz_32 rfl hp rfl (by first | decide | (simp; done) | (simp; omega)) (fun w9 (hp : Hp w9 [(_, Cl [_, _, _, _, _] _), _, _, (_, Cl [_, _, _, _, _, _, _, _, _] _), (_, Cl [_] _), (_, Cl [_] _), (_, Cl [_] _), (_, Cl [_] _), (_, Cl [_] _), (_, Cl [_] _), _, _, _, _]) hf _ => ?_)
      | refine a_store (i := 11) rfl rfl rfl rfl rfl Ty.sz_32 rfl hp rfl (by first | decide | (simp; done) | (simp; omega)) (fun w9 (hp : Hp w9 [(_, Cl [_, _, _, _, _] _), _, _, (_, Cl [_, _, _, _, _, _, _, _, _] _), (_, Cl [_] _), (_, Cl [_] _), (_, Cl [_] _), (_, Cl [_] _), (_, Cl [_] _), (_, Cl [_] _), _, _, _, _]) hf _ => ?_)
      | refine a_store (i := 12) rfl rfl rfl rfl rfl Ty.sz_32 rfl hp rfl (by first | decide | (simp; done) | (simp; omega)) (fun w9 (hp : Hp w9 [(_, Cl [_, _, _, _, _] _), _, _, (_, Cl [_, _, _, _, _, _, _, _, _] _), (_, Cl [_] _), (_, Cl [_] _), (_, Cl [_] _), (_, Cl [_] _), (_, Cl [_] _), (_, Cl [_] _), _, _, _, _]) hf _ => ?_)
      | refine a_store (i := 13) rfl rfl rfl rfl rfl Ty.sz_32 rfl hp rfl (by first | decide | (simp; done) | (simp; omega)) (fun w9 (hp : Hp w9 [(_, Cl [_, _, _, _, _] _), _, _, (_, Cl [_, _, _, _, _, _, _, _, _] _), (_, Cl [_] _), (_, Cl [_] _), (_, Cl [_] _), (_, Cl [_] _), (_, Cl [_] _), (_, Cl [_] _), _, _, _, _]) hf _ => ?_)
    have hF := hF.step hf (by intro y hy; simp only [List.mem_cons, List.not_mem_nil, or_false] at hy; subst hy; first | (exact Or.inr (by omega)) | (exact Or.inl (by simp)))
    refine id (Th_n (hK23 _ _ ?_))
    refine Wp_seq fun K24 hK24 => ?_
    refine Wp_region ?_
    first
      | refine Ls_y (wtd0 rfl) rfl rfl (y_load (i := 0) rfl rfl Ty.pl_22 (fun _ e => e ▸ hp) rfl rfl) ?_
      | refine Ls_y (wtd0 rfl) rfl rfl (y_load (i := 1) rfl rfl Ty.pl_22 (fun _ e => e ▸ hp) rfl rfl) ?_
      | refine Ls_y (wtd0 rfl) rfl rfl (y_load (i := 2) rfl rfl Ty.pl_22 (fun _ e => e ▸ hp) rfl rfl) ?_
      | refine Ls_y (wtd0 rfl) rfl rfl (y_load (i := 3) rfl rfl Ty.pl_22 (fun _ e => e ▸ hp) rfl rfl) ?_
      | refine Ls_y (wtd0 rfl) rfl rfl (y_load (i := 4) rfl rfl Ty.pl_22 (fun _ e => e ▸ hp) rfl rfl) ?_
      | refine Ls_y (wtd0 rfl) rfl rfl (y_load (i := 5) rfl rfl Ty.pl_22 (fun _ e => e ▸ hp) rfl rfl) ?_
      | refine Ls_y (wtd0 rfl) rfl rfl (y_load (i := 6) rfl rfl Ty.pl_22 (fun _ e => e ▸ hp) rfl rfl) ?_
      | refine Ls_y (wtd0 rfl) rfl rfl (y_load (i := 7) rfl rfl Ty.pl_22 (fun _ e => e ▸ hp) rfl rfl) ?_
      | refine Ls_y (wtd0 rfl) rfl rfl (y_load (i := 8) rfl rfl Ty.pl_22 (fun _ e => e ▸ hp) rfl rfl) ?_
      | refine Ls_y (wtd0 rfl) rfl rfl (y_load (i := 9) rfl rfl Ty.pl_22 (fun _ e => e ▸ hp) rfl rfl) ?_
      | refine Ls_y (wtd0 rfl) rfl rfl (y_load (i := 10) rfl rfl Ty.pl_22 (fun _ e => e ▸ hp) rfl rfl) ?_
      | refine Ls_y (wtd0 rfl) rfl rfl (y_load (i := 11) rfl rfl Ty.pl_22 (fun _ e => e ▸ hp) rfl rfl) ?_
      | refine Ls_y (wtd0 rfl) rfl rfl (y_load (i := 12) rfl rfl Ty.pl_22 (fun _ e => e ▸ hp) rfl rfl) ?_
      | refine Ls_y (wtd0 rfl) rfl rfl (y_load (i := 13) rfl rfl Ty.pl_22 (fun _ e => e ▸ hp) rfl rfl) ?_
    refine Ls_y (wtd0 rfl) rfl rfl (y_assign rfl rfl) ?_
    refine Ls_nil (Th_n (hK24 _ _ ?_))
    refine Wp_ret (Th_r (FqM_ret (i := 12) hp rfl (fun WE hp hf => ⟨_, (Res1 rfl rfl), ?_⟩)))
    have hF := hF.step hf (by simp [hd0])
    exact ⟨A, ca, spa, rfl, hA, (hp.picks [0, 1, 2, 3, 10] (by decide)), hF, hAn⟩
  · rw [hJx] at hq
    obtain ⟨A, ca, spa, B, cb, spb, hA, hB, hAn, hBn, hp, hF⟩ := hq
    have hp : Hp W' [(_, Cl [_, _, _, _, _] _), _, _, (_, Cl [_, _, _, _, _, _, _, _, _] _), (_, Cl [_] _), (_, Cl [_] _), (_, Cl [_] _), (_, Cl [_] _), (_, Cl [_] _), (_, Cl [_] _), _, _, _, _] := hp
    refine .inr <| .inl ⟨_, 13, hp, rfl, ?_⟩
    intro W2 hp hf inst
    have hp : Hp W2 [(_, Cl [_, _, _, _, _] _), _, _, (_, Cl [_, _, _, _, _, _, _, _, _] _), (_, Cl [_] _), (_, Cl [_] _), (_, Cl [_] _), (_, Cl [_] _), (_, Cl [_] _), (_, Cl [_] _), _, _, _, _] := hp
    have hF := hF.step hf (by simp [hl0])
    refine Wp_seq fun K25 hK25 => ?_
    refine Wp_planF (fun W => Hp W (pickL (heapOf hp) [3, 4])) [(true, 0), (true, 1), (true, 2), (true, 3), (true, 4), (true, 5), (true, 6)] 7 Ty.mx_0 (by kernel_rfl) (by kernel_rfl) (by kernel_rfl) rfl ((hp.picks [3, 4] (by decide)).drew) ?_
    have hp := hp.drew
    have hF := hF.step0 (Fr.drew _)
    first
      | refine Pl_y rfl (wtd0 rfl) rfl rfl (y_load (i := 0) rfl rfl Ty.pl_29 (fun _ h => h) rfl rfl) ?_
      | refine Pl_y rfl (wtd0 rfl) rfl rfl (y_load (i := 1) rfl rfl Ty.pl_29 (fun _ h => h) rfl rfl) ?_
    first
      | refine Pl_y rfl (wtd0 rfl) rfl rfl (y_load (i := 0) rfl rfl Ty.pl_29 (fun _ h => h) rfl rfl) ?_
      | refine Pl_y rfl (wtd0 rfl) rfl rfl (y_load (i := 1) rfl rfl Ty.pl_29 (fun _ h => h) rfl rfl) ?_
    refine Pl_y rfl (wtd0 rfl) rfl rfl (y_nil rfl rfl) ?_
    refine Pl_y rfl (wtd0 rfl) rfl rfl (y_fld rfl rfl Ty.fo_53_6) ?_
    first
      | refine Pl_y rfl (wtd0 rfl) rfl rfl (y_load (i := 0) rfl rfl Ty.pl_32 (fun _ h => h) rfl rfl) ?_
      | refine Pl_y rfl (wtd0 rfl) rfl rfl (y_load (i := 1) rfl rfl Ty.pl_32 (fun _ h => h) rfl rfl) ?_
    refine Pl_y rfl (wtd0 rfl) rfl rfl (y_nil rfl rfl) ?_
    refine Pl_y rfl (wtd0 rfl) rfl rfl (y_fld rfl rfl Ty.fo_53_7) ?_
    refine Pl_nil (Fin_a rfl (wtd0 rfl) ?_)
    first
      | refine a_store (i := 0) rfl rfl rfl rfl rfl Ty.sz_32 rfl hp rfl (by first | decide | (simp; done) | (simp; omega)) (fun w9 (hp : Hp w9 [(_, Cl [_, _, _, _, _] _), _, _, (_, Cl [_, _, _, _, _, _, _, _, _] _), (_, Cl [_] _), (_, Cl [_] _), (_, Cl [_] _), (_, Cl [_] _), (_, Cl [_] _), (_, Cl [_] _), _, _, _, _]) hf _ => ?_)
      | refine a_store (i := 1) rfl rfl rfl rfl rfl Ty.sz_32 rfl hp rfl (by first | decide | (simp; done) | (simp; omega)) (fun w9 (hp : Hp w9 [(_, Cl [_, _, _, _, _] _), _, _, (_, Cl [_, _, _, _, _, _, _, _, _] _), (_, Cl [_] _), (_, Cl [_] _), (_, Cl [_] _), (_, Cl [_] _), (_, Cl [_] _), (_, Cl [_] _), _, _, _, _]) hf _ => ?_)
      | refine a_store (i := 2) rfl rfl rfl rfl rfl Ty.sz_32 rfl hp rfl (by first | decide | (simp; done) | (simp; omega)) (fun w9 (hp : Hp w9 [(_, Cl [_, _, _, _, _] _), _, _, (_, Cl [_, _, _, _, _, _, _, _, _] _), (_, Cl [_] _), (_, Cl [_] _), (_, Cl [_] _), (_, Cl [_] _), (_, Cl [_] _), (_, Cl [_] _), _, _, _, _]) hf _ => ?_)
      | refine a_store (i := 3) rfl rfl rfl rfl rfl Ty.sz_32 rfl hp rfl (by first | decide | (simp; done) | (simp; omega)) (fun w9 (hp : Hp w9 [(_, Cl [_, _, _, _, _] _), _, _, (_, Cl [_, _, _, _, _, _, _, _, _] _), (_, Cl [_] _), (_, Cl [_] _), (_, Cl [_] _), (_, Cl [_] _), (_, Cl [_] _), (_, Cl [_] _), _, _, _, _]) hf _ => ?_)
      | refine a_store (i := 4) rfl rfl rfl rfl rfl Ty.sz_32 rfl hp rfl (by first | decide | (simp; done) | (simp; omega)) (fun w9 (hp : Hp w9 [(_, Cl [_, _, _, _, _] _), _, _, (_, Cl [_, _, _, _, _, _, _, _, _] _), (_, Cl [_] _), (_, Cl [_] _), (_, Cl [_] _), (_, Cl [_] _), (_, Cl [_] _), (_, Cl [_] _), _, _, _, _]) hf _ => ?_)
      | refine a_store (i := 5) rfl rfl rfl rfl rfl Ty.sz_32 rfl hp rfl (by first | decide | (simp; done) | (simp; omega)) (fun w9 (hp : Hp w9 [(_, Cl [_, _, _, _, _] _), _, _, (_, Cl [_, _, _, _, _, _, _, _, _] _), (_, Cl [_] _), (_, Cl [_] _), (_, Cl [_] _), (_, Cl [_] _), (_, Cl [_] _), (_, Cl [_] _), _, _, _, _]) hf _ => ?_)
      | refine a_store (i := 6) rfl rfl rfl rfl rfl Ty.sz_32 rfl hp rfl (by first | decide | (simp; done) | (simp; omega)) (fun w9 (hp : Hp w9 [(_, Cl [_, _, _, _, _] _), _, _, (_, Cl [_, _, _, _, _, _, _, _, _] _), (_, Cl [_] _), (_, Cl [_] _), (_, Cl [_] _), (_, Cl [_] _), (_, Cl [_] _), (_, Cl [_] _), _, _, _, _]) hf _ => ?_)
      | refine a_store (i := 7) rfl rfl rfl rfl rfl Ty.sz_32 rfl hp rfl (by first | decide | (simp; done) | (simp; omega)) (fun w9 (hp : Hp w9 [(_, Cl [_, _, _, _, _] _), _, _, (_, Cl [_, _, _, _, _, _, _, _, _] _), (_, Cl [_] _), (_, Cl [_] _), (_, Cl [_] _), (_, Cl [_] _), (_, Cl [_] _), (_, Cl [_] _), _, _, _, _]) hf _ => ?_)
      | refine a_store (i := 8) rfl rfl rfl rfl rfl Ty.sz_32 rfl hp rfl (by first | decide | (simp; done) | (simp; omega)) (fun w9 (hp : Hp w9 [(_, Cl [_, _, _, _, _] _), _, _, (_, Cl [_, _, _, _, _, _, _, _, _] _), (_, Cl [_] _), (_, Cl [_] _), (_, Cl [_] _), (_, Cl [_] _), (_, Cl [_] _), (_, Cl [_] _), _, _, _, _]) hf _ => ?_)
      | refine a_store (i := 9) rfl rfl rfl rfl rfl Ty.sz_32 rfl hp rfl (by first | decide | (simp; done) | (simp; omega)) (fun w9 (hp : Hp w9 [(_, Cl [_, _, _, _, _] _), _, _, (_, Cl [_, _, _, _, _, _, _, _, _] _), (_, Cl [_] _), (_, Cl [_] _), (_, Cl [_] _), (_, Cl [_] _), (_, Cl [_] _), (_, Cl [_] _), _, _, _, _]) hf _ => ?_)
      | refine a_store (i := 10) rfl rfl rfl rfl rfl Ty.sz_32 rfl hp rfl (by first | decide | (simp; done) | (simp; omega)) (fun w9 (hp : Hp w9 [(_, Cl [_, _, _, _, _] _), _, _, (_, Cl [_, _, _, _, _, _, _, _, _] _), (_, Cl [_] _), (_, Cl [_] _), (_, Cl [_] _), (_, Cl [_] _), (_, Cl [_] _), (_, Cl [_] _), _, _, _, _]) hf _ => ?_)
      | refine a_store (i := 11) rfl rfl rfl rfl rfl Ty.sz_32 rfl hp rfl (by first | decide | (simp; done) | (simp; omega)) (fun w9 (hp : Hp w9 [(_, Cl [_, _, _, _, _] _), _, _, (_, Cl [_, _, _, _, _, _, _, _, _] _), (_, Cl [_] _), (_, Cl [_] _), (_, Cl [_] _), (_, Cl [_] _), (_, Cl [_] _), (_, Cl [_] _), _, _, _, _]) hf _ => ?_)
      | refine a_store (i := 12) rfl rfl rfl rfl rfl Ty.sz_32 rfl hp rfl (by first | decide | (simp; done) | (simp; omega)) (fun w9 (hp : Hp w9 [(_, Cl [_, _, _, _, _] _), _, _, (_, Cl [_, _, _, _, _, _, _, _, _] _), (_, Cl [_] _), (_, Cl [_] _), (_, Cl [_] _), (_, Cl [_] _), (_, Cl [_] _), (_, Cl [_] _), _, _, _, _]) hf _ => ?_)
      | refine a_store (i := 13) rfl rfl rfl rfl rfl Ty.sz_32 rfl hp rfl (by first | decide | (simp; done) | (simp; omega)) (fun w9 (hp : Hp w9 [(_, Cl [_, _, _, _, _] _), _, _, (_, Cl [_, _, _, _, _, _, _, _, _] _), (_, Cl [_] _), (_, Cl [_] _), (_, Cl [_] _), (_, Cl [_] _), (_, Cl [_] _), (_, Cl [_] _), _, _, _, _]) hf _ => ?_)
    have hF := hF.step hf (by intro y hy; simp only [List.mem_cons, List.not_mem_nil, or_false] at hy; subst hy; first | (exact Or.inr (by omega)) | (exact Or.inl (by simp)))
    refine id (Th_n (hK25 _ _ ?_))
    refine Wp_seq fun K26 hK26 => ?_
    refine Wp_region ?_
    first
      | refine Ls_y (wtd0 rfl) rfl rfl (y_load (i := 0) rfl rfl Ty.pl_22 (fun _ e => e ▸ hp) rfl rfl) ?_
      | refine Ls_y (wtd0 rfl) rfl rfl (y_load (i := 1) rfl rfl Ty.pl_22 (fun _ e => e ▸ hp) rfl rfl) ?_
      | refine Ls_y (wtd0 rfl) rfl rfl (y_load (i := 2) rfl rfl Ty.pl_22 (fun _ e => e ▸ hp) rfl rfl) ?_
      | refine Ls_y (wtd0 rfl) rfl rfl (y_load (i := 3) rfl rfl Ty.pl_22 (fun _ e => e ▸ hp) rfl rfl) ?_
      | refine Ls_y (wtd0 rfl) rfl rfl (y_load (i := 4) rfl rfl Ty.pl_22 (fun _ e => e ▸ hp) rfl rfl) ?_
      | refine Ls_y (wtd0 rfl) rfl rfl (y_load (i := 5) rfl rfl Ty.pl_22 (fun _ e => e ▸ hp) rfl rfl) ?_
      | refine Ls_y (wtd0 rfl) rfl rfl (y_load (i := 6) rfl rfl Ty.pl_22 (fun _ e => e ▸ hp) rfl rfl) ?_
      | refine Ls_y (wtd0 rfl) rfl rfl (y_load (i := 7) rfl rfl Ty.pl_22 (fun _ e => e ▸ hp) rfl rfl) ?_
      | refine Ls_y (wtd0 rfl) rfl rfl (y_load (i := 8) rfl rfl Ty.pl_22 (fun _ e => e ▸ hp) rfl rfl) ?_
      | refine Ls_y (wtd0 rfl) rfl rfl (y_load (i := 9) rfl rfl Ty.pl_22 (fun _ e => e ▸ hp) rfl rfl) ?_
      | refine Ls_y (wtd0 rfl) rfl rfl (y_load (i := 10) rfl rfl Ty.pl_22 (fun _ e => e ▸ hp) rfl rfl) ?_
      | refine Ls_y (wtd0 rfl) rfl rfl (y_load (i := 11) rfl rfl Ty.pl_22 (fun _ e => e ▸ hp) rfl rfl) ?_
      | refine Ls_y (wtd0 rfl) rfl rfl (y_load (i := 12) rfl rfl Ty.pl_22 (fun _ e => e ▸ hp) rfl rfl) ?_
      | refine Ls_y (wtd0 rfl) rfl rfl (y_load (i := 13) rfl rfl Ty.pl_22 (fun _ e => e ▸ hp) rfl rfl) ?_
    refine Ls_y (wtd0 rfl) rfl rfl (y_assign rfl rfl) ?_
    refine Ls_nil (Th_n (hK26 _ _ ?_))
    refine Wp_ret (Th_r (FqM_ret (i := 12) hp rfl (fun WE hp hf => ⟨_, (Res1 rfl rfl), ?_⟩)))
    have hF := hF.step hf (by simp [hd0])
    exact ⟨A, ca, spa, rfl, hA, (hp.picks [0, 1, 2, 3, 10] (by decide)), hF, hAn⟩

end Go.Proofs.Ytcpfhnfpokijaaa

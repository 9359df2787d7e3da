/- Walks printed by gen2.py out of our own specifications: what the functions named below do. -/
import Derived.Test.YtikdpkhcegjmfaaT2
set_option linter.unusedSimpArgs false
set_option linter.unusedVariables false
namespace Go.Proofs.Ytikdpkhcegjmfaa
open Go.RowKit


def psend_m (T : Nt) (m : MsgV) : Int × Nt := (sendE T m, sendT T m)
def ptake_m (T : Nt) (i : Int) : MsgV × Int × Nt := (takeM T i, takeE T i, takeT T i)
def pdrop_m (T : Nt) (i : Int) : Int × Nt := (atE T i, dropT T i)
def pdbl_m (T : Nt) (i : Int) : Int × Nt := (dblE T i, dblT T i)
def ppaint_m (T : Nt) (i c : Int) : Int × Nt := (paintE T i c, paintT T i c)
def pat_m (T : Nt) (i : Int) : MsgV × Int := (atM T i, atE T i)
def papart_m (T : Nt) (a b : Int) : Bool := apartB T a b
def plen_m (T : Nt) : Int := (T.row.length : Int)
def plost_m (T : Nt) : Int := T.lost
def pnew_m (n : Int) : Nt × Int := (newT n.toNat, 0)
theorem std_post {X : List Nat} {w w' : World} {g c : Nat} {A : Option Addr} {sp : List Value} {T T' : Nt} (hs : St X w [(some g, Cl (ntC A c T) 115), (blkOf A, Cl (rowC T.row ++ sp) 51)] []) (hT : NtOk T') (h : NtPost ⟨g, A, c, sp⟩ T T' w w') : ∃ A' c' sp', (NtOk T' ∧ NpOk ⟨g, A', c', sp'⟩ T') ∧ St X w' [(some g, Cl (ntC A' c' T') 115), (blkOf A', Cl (rowC T'.row ++ sp') 51)] [] ∧ Fr (keys [(some g, Cl (ntC A c T) 115), (blkOf A, Cl (rowC T.row ++ sp) 51)]) w w' ∧ (∀ k ∈ keys [(some g, Cl (ntC A' c' T') 115), (blkOf A', Cl (rowC T'.row ++ sp') 51)], k ∈ (keys [(some g, Cl (ntC A c T) 115), (blkOf A, Cl (rowC T.row ++ sp) 51)]) ∨ w.heap.size ≤ k) := by
  obtain ⟨A', c', sp', hok, hM⟩ := h
  exact ⟨A', c', sp', ⟨hT, hok⟩, hs.callM [] [0, 1] (by decide) rfl hM, hM.fr, hM.nw⟩

theorem psend_ok (X : List Nat) (w : World) (g : Nat) (A : Option Addr) (c : Nat) (sp : List Value) (T : Nt) (hok : (NtOk T ∧ NpOk ⟨g, A, c, sp⟩ T)) (m : MsgV) (hs : St X w [(some g, Cl (ntC A c T) 115), (blkOf A, Cl (rowC T.row ++ sp) 51)] []) (hl : T.lost ≤ 1000000) :
    Fn Try.prog 19 [.pointer (some ⟨g, 0, none⟩), .agg (msgC m).toArray] w fun v w' => ∃ (A' : Option Addr) (c' : Nat) (sp' : List Value), v = .int .i64 (psend_m T m).1 ∧ (NtOk (psend_m T m).2 ∧ NpOk ⟨g, A', c', sp'⟩ (psend_m T m).2) ∧ St X w' [(some g, Cl (ntC A' c' (psend_m T m).2) 115), (blkOf A', Cl (rowC (psend_m T m).2.row ++ sp') 51)] [] ∧ Fr (keys [(some g, Cl (ntC A c T) 115), (blkOf A, Cl (rowC T.row ++ sp) 51)]) w w' ∧ (∀ k ∈ keys [(some g, Cl (ntC A' c' (psend_m T m).2) 115), (blkOf A', Cl (rowC (psend_m T m).2.row ++ sp') 51)], k ∈ (keys [(some g, Cl (ntC A c T) 115), (blkOf A, Cl (rowC T.row ++ sp) 51)]) ∨ w.heap.size ≤ k) :=
  (nsend_ok ⟨g, A, c, sp⟩ T w hs.hp hok.1 hok.2 m.f m.t m.s hl).mono fun v w' ⟨hv, hp⟩ => by
    obtain ⟨A', c', sp', h⟩ := std_post hs (sendT_ok hok.1 m).1 hp
    exact ⟨A', c', sp', hv, h⟩

theorem ptake_ok (X : List Nat) (w : World) (g : Nat) (A : Option Addr) (c : Nat) (sp : List Value) (T : Nt) (hok : (NtOk T ∧ NpOk ⟨g, A, c, sp⟩ T)) (i : Int) (hs : St X w [(some g, Cl (ntC A c T) 115), (blkOf A, Cl (rowC T.row ++ sp) 51)] [])  :
    Fn Try.prog 21 [.pointer (some ⟨g, 0, none⟩), .int .i64 i] w fun v w' => ∃ (A' : Option Addr) (c' : Nat) (sp' : List Value), v = .tuple #[.agg (msgC (ptake_m T i).1).toArray, .int .i64 (ptake_m T i).2.1] ∧ (NtOk (ptake_m T i).2.2 ∧ NpOk ⟨g, A', c', sp'⟩ (ptake_m T i).2.2) ∧ St X w' [(some g, Cl (ntC A' c' (ptake_m T i).2.2) 115), (blkOf A', Cl (rowC (ptake_m T i).2.2.row ++ sp') 51)] [] ∧ Fr (keys [(some g, Cl (ntC A c T) 115), (blkOf A, Cl (rowC T.row ++ sp) 51)]) w w' ∧ (∀ k ∈ keys [(some g, Cl (ntC A' c' (ptake_m T i).2.2) 115), (blkOf A', Cl (rowC (ptake_m T i).2.2.row ++ sp') 51)], k ∈ (keys [(some g, Cl (ntC A c T) 115), (blkOf A, Cl (rowC T.row ++ sp) 51)]) ∨ w.heap.size ≤ k) :=
  (ntake_ok ⟨g, A, c, sp⟩ T w hs.hp hok.1 hok.2 i).mono fun v w' ⟨hv, hp⟩ => by
    obtain ⟨A', c', sp', h⟩ := std_post hs (takeT_ok hok.1 i).1 hp
    exact ⟨A', c', sp', hv, h⟩

theorem pdrop_ok (X : List Nat) (w : World) (g : Nat) (A : Option Addr) (c : Nat) (sp : List Value) (T : Nt) (hok : (NtOk T ∧ NpOk ⟨g, A, c, sp⟩ T)) (i : Int) (hs : St X w [(some g, Cl (ntC A c T) 115), (blkOf A, Cl (rowC T.row ++ sp) 51)] []) (hl : T.lost ≤ 1000000) :
    Fn Try.prog 24 [.pointer (some ⟨g, 0, none⟩), .int .i64 i] w fun v w' => ∃ (A' : Option Addr) (c' : Nat) (sp' : List Value), v = .int .i64 (pdrop_m T i).1 ∧ (NtOk (pdrop_m T i).2 ∧ NpOk ⟨g, A', c', sp'⟩ (pdrop_m T i).2) ∧ St X w' [(some g, Cl (ntC A' c' (pdrop_m T i).2) 115), (blkOf A', Cl (rowC (pdrop_m T i).2.row ++ sp') 51)] [] ∧ Fr (keys [(some g, Cl (ntC A c T) 115), (blkOf A, Cl (rowC T.row ++ sp) 51)]) w w' ∧ (∀ k ∈ keys [(some g, Cl (ntC A' c' (pdrop_m T i).2) 115), (blkOf A', Cl (rowC (pdrop_m T i).2.row ++ sp') 51)], k ∈ (keys [(some g, Cl (ntC A c T) 115), (blkOf A, Cl (rowC T.row ++ sp) 51)]) ∨ w.heap.size ≤ k) :=
  (ndrop_ok ⟨g, A, c, sp⟩ T w hs.hp hok.1 hok.2 i hl).mono fun v w' ⟨hv, hp⟩ => by
    obtain ⟨A', c', sp', h⟩ := std_post hs (dropT_ok hok.1 i).1 hp
    exact ⟨A', c', sp', hv, h⟩

theorem pdbl_ok (X : List Nat) (w : World) (g : Nat) (A : Option Addr) (c : Nat) (sp : List Value) (T : Nt) (hok : (NtOk T ∧ NpOk ⟨g, A, c, sp⟩ T)) (i : Int) (hs : St X w [(some g, Cl (ntC A c T) 115), (blkOf A, Cl (rowC T.row ++ sp) 51)] [])  :
    Fn Try.prog 26 [.pointer (some ⟨g, 0, none⟩), .int .i64 i] w fun v w' => ∃ (A' : Option Addr) (c' : Nat) (sp' : List Value), v = .int .i64 (pdbl_m T i).1 ∧ (NtOk (pdbl_m T i).2 ∧ NpOk ⟨g, A', c', sp'⟩ (pdbl_m T i).2) ∧ St X w' [(some g, Cl (ntC A' c' (pdbl_m T i).2) 115), (blkOf A', Cl (rowC (pdbl_m T i).2.row ++ sp') 51)] [] ∧ Fr (keys [(some g, Cl (ntC A c T) 115), (blkOf A, Cl (rowC T.row ++ sp) 51)]) w w' ∧ (∀ k ∈ keys [(some g, Cl (ntC A' c' (pdbl_m T i).2) 115), (blkOf A', Cl (rowC (pdbl_m T i).2.row ++ sp') 51)], k ∈ (keys [(some g, Cl (ntC A c T) 115), (blkOf A, Cl (rowC T.row ++ sp) 51)]) ∨ w.heap.size ≤ k) :=
  (ndbl_ok ⟨g, A, c, sp⟩ T w hs.hp hok.1 hok.2 i).mono fun v w' ⟨hv, hp⟩ => by
    obtain ⟨A', c', sp', h⟩ := std_post hs (dblT_ok hok.1 i).1 hp
    exact ⟨A', c', sp', hv, h⟩

theorem ppaint_ok (X : List Nat) (w : World) (g : Nat) (A : Option Addr) (c : Nat) (sp : List Value) (T : Nt) (hok : (NtOk T ∧ NpOk ⟨g, A, c, sp⟩ T)) (i q : Int) (hs : St X w [(some g, Cl (ntC A c T) 115), (blkOf A, Cl (rowC T.row ++ sp) 51)] [])  :
    Fn Try.prog 28 [.pointer (some ⟨g, 0, none⟩), .int .i64 i, .int .i64 q] w fun v w' => ∃ (A' : Option Addr) (c' : Nat) (sp' : List Value), v = .int .i64 (ppaint_m T i q).1 ∧ (NtOk (ppaint_m T i q).2 ∧ NpOk ⟨g, A', c', sp'⟩ (ppaint_m T i q).2) ∧ St X w' [(some g, Cl (ntC A' c' (ppaint_m T i q).2) 115), (blkOf A', Cl (rowC (ppaint_m T i q).2.row ++ sp') 51)] [] ∧ Fr (keys [(some g, Cl (ntC A c T) 115), (blkOf A, Cl (rowC T.row ++ sp) 51)]) w w' ∧ (∀ k ∈ keys [(some g, Cl (ntC A' c' (ppaint_m T i q).2) 115), (blkOf A', Cl (rowC (ppaint_m T i q).2.row ++ sp') 51)], k ∈ (keys [(some g, Cl (ntC A c T) 115), (blkOf A, Cl (rowC T.row ++ sp) 51)]) ∨ w.heap.size ≤ k) :=
  (npaint_ok ⟨g, A, c, sp⟩ T w hs.hp hok.1 hok.2 i q).mono fun v w' ⟨hv, hp⟩ => by
    obtain ⟨A', c', sp', h⟩ := std_post hs (paintT_ok hok.1 i q).1 hp
    exact ⟨A', c', sp', hv, h⟩

theorem pat_ok (X : List Nat) (w : World) (g : Nat) (A : Option Addr) (c : Nat) (sp : List Value) (T : Nt) (hok : (NtOk T ∧ NpOk ⟨g, A, c, sp⟩ T)) (i : Int) (hs : St X w [(some g, Cl (ntC A c T) 115), (blkOf A, Cl (rowC T.row ++ sp) 51)] []) :
    Fn Try.prog 75 [.pointer (some ⟨g, 0, none⟩), .int .i64 i] w fun v w' => v = .tuple #[.agg (msgC (pat_m T i).1).toArray, .int .i64 (pat_m T i).2] ∧ Fr [] w w' :=
  (nat_ok ⟨g, A, c, sp⟩ T w hs.hp hok.1 hok.2 i).mono fun v w' ⟨hv, hw⟩ => ⟨hv, hw⟩

theorem papart_ok (X : List Nat) (w : World) (g : Nat) (A : Option Addr) (c : Nat) (sp : List Value) (T : Nt) (hok : (NtOk T ∧ NpOk ⟨g, A, c, sp⟩ T)) (a b : Int) (hs : St X w [(some g, Cl (ntC A c T) 115), (blkOf A, Cl (rowC T.row ++ sp) 51)] []) :
    Fn Try.prog 31 [.pointer (some ⟨g, 0, none⟩), .int .i64 a, .int .i64 b] w fun v w' => v = .bool (papart_m T a b) ∧ Fr [] w w' :=
  (napart_ok ⟨g, A, c, sp⟩ T w hs.hp hok.1 a b).mono fun v w' ⟨hv, hw⟩ => ⟨hv, hw⟩

theorem plen_ok (X : List Nat) (w : World) (g : Nat) (A : Option Addr) (c : Nat) (sp : List Value) (T : Nt) (hok : (NtOk T ∧ NpOk ⟨g, A, c, sp⟩ T))  (hs : St X w [(some g, Cl (ntC A c T) 115), (blkOf A, Cl (rowC T.row ++ sp) 51)] []) :
    Fn Try.prog 34 [.pointer (some ⟨g, 0, none⟩)] w fun v w' => v = .int .i64 (plen_m T) ∧ Fr [] w w' :=
  (nlen_ok ⟨g, A, c, sp⟩ T w hs.hp hok.1).mono fun v w' ⟨hv, hw⟩ => ⟨hv, hw ▸ Fr.refl _ _⟩

theorem plost_ok (X : List Nat) (w : World) (g : Nat) (A : Option Addr) (c : Nat) (sp : List Value) (T : Nt) (hok : (NtOk T ∧ NpOk ⟨g, A, c, sp⟩ T))  (hs : St X w [(some g, Cl (ntC A c T) 115), (blkOf A, Cl (rowC T.row ++ sp) 51)] []) :
    Fn Try.prog 35 [.pointer (some ⟨g, 0, none⟩)] w fun v w' => v = .int .i64 (plost_m T) ∧ Fr [] w w' :=
  (nlost_ok ⟨g, A, c, sp⟩ T w hs.hp hok.1).mono fun v w' ⟨hv, hw⟩ => ⟨hv, hw ▸ Fr.refl _ _⟩

theorem pnew_ok (X : List Nat) (w : World) (hX : Lo X w) (n : Int) (hn : 1 ≤ n ∧ n ≤ 32) :
    Fn Try.prog 17 [.int .i64 n] w fun v w' => ∃ (g : Nat) (A : Option Addr) (c : Nat) (sp : List Value), v = .tuple #[.pointer (some ⟨g, 0, none⟩), .int .i64 (pnew_m n).2] ∧ (NtOk (pnew_m n).1 ∧ NpOk ⟨g, A, c, sp⟩ (pnew_m n).1) ∧ St X w' [(some g, Cl (ntC A c (pnew_m n).1) 115), (blkOf A, Cl (rowC (pnew_m n).1.row ++ sp) 51)] [] ∧ Fr [] w w' ∧ (∀ k ∈ keys [(some g, Cl (ntC A c (pnew_m n).1) 115), (blkOf A, Cl (rowC (pnew_m n).1.row ++ sp) 51)], w.heap.size ≤ k) := by
  obtain ⟨k, rfl⟩ := Int.eq_ofNat_of_zero_le (show 0 ≤ n by omega)
  refine (nnew_ok k w (by omega) (by omega)).mono fun v w' ⟨p, hv, hok, hN⟩ => ?_
  obtain ⟨g, A, c, sp⟩ := p
  exact ⟨g, A, c, sp, hv, ⟨newT_ok (by omega) (by omega), hok⟩, ⟨hN.hp, by simp, fun x hx => Nat.lt_of_lt_of_le (hX x hx) hN.fr.size, fun x hx hk => by have := hN.nw x hk; have := hX x hx; omega⟩, hN.fr, hN.nw⟩


/-- The program's net and the document's say the same. -/
def Rel (T : Nt) (t : NetM) : Prop := T.cols = t.c ∧ T.nodes = t.c.length ∧ T.row = t.l ∧ T.lost = t.count
theorem Rel.ex {T : Nt} {t : NetM} (h : Rel T t) : T = ⟨t.c.length, t.c, t.l, t.count⟩ := by
  obtain ⟨h1, h2, h3, h4⟩ := h
  cases T; simp_all
theorem rel_node {t : NetM} (k : Int) : nodeB ⟨t.c.length, t.c, t.l, t.count⟩ k = rnode_m t k := by
  rw [Bool.eq_iff_iff, rnode_iff]; simp [nodeB]
theorem rel_apart {T : Nt} {t : NetM} (h : Rel T t) (a b : Int) : papart_m T a b = rapart_m t a b := by
  rw [h.ex]
  unfold papart_m apartB rapart_m
  rw [rel_node, rel_node]
  by_cases ha : rnode_m t a = true <;> by_cases hb : rnode_m t b = true <;> simp [ha, hb, ix, default]
  rw [Bool.eq_iff_iff]; simp
theorem rel_send {T : Nt} {t : NetM} (h : Rel T t) (m : MsgV) : (psend_m T m).1 = (rsend_m t m).1 ∧ Rel (psend_m T m).2 (rsend_m t m).2 := by
  have hap := rel_apart h m.f m.t
  rw [h.ex] at hap ⊢
  unfold papart_m at hap
  unfold psend_m sendE sendT rsend_m badB
  rw [rel_node, rel_node, hap]
  by_cases h1 : rnode_m t m.f = true <;> by_cases h2 : rnode_m t m.t = true <;> by_cases h3 : m.f = m.t <;> simp [h1, h2, h3, Rel]
  by_cases h4 : (32768 : Int) < (m.s.length : Int)
  · have h4' : 32768 < m.s.length := by omega
    simp [h4, h4']
  · have h4' : ¬ 32768 < m.s.length := by omega
    simp only [h4, h4', if_false]
    by_cases h5 : rapart_m t m.f m.t = true
    · simp [h5]
    · by_cases h6 : (128 : Int) ≤ (t.l.length : Int)
      · have h6' : 128 ≤ t.l.length := by omega
        simp [h5, h6, h6']
      · have h6' : ¬ 128 ≤ t.l.length := by omega
        simp [h5, h6, h6']
theorem rel_at {T : Nt} {t : NetM} (h : Rel T t) (i : Int) : pat_m T i = rat_m t i := by
  rw [h.ex]
  unfold pat_m atM atE inB rat_m
  by_cases h1 : i < 0
  · simp [h1, show ¬ 0 ≤ i by omega, msg0]
  · by_cases h2 : (t.l.length : Int) ≤ i
    · simp [h1, h2, show ¬ i < (t.l.length : Int) by omega, msg0]
    · simp [h1, h2, show 0 ≤ i by omega, show i < (t.l.length : Int) by omega, ix, default, msg0]

theorem eqv_46r (a0 : Int) (a1 : Int) (a2 : List UInt8) (b0 : Int) (b1 : Int) (b2 : List UInt8) : eqVals Try.prog 8 46 [.int .i64 a0, .int .i64 a1, sv a2] [.int .i64 b0, .int .i64 b1, sv b2] = some ((a0 == b0) && ((a1 == b1) && ((a2 == b2) && true))) := by kernel_rfl
theorem eqv_46 (x y : MsgV) : eqVals Try.prog 8 46 (msgC x) (msgC y) = some (decide (x = y)) := by
  obtain ⟨a0, a1, a2⟩ := x
  obtain ⟨b0, b1, b2⟩ := y
  refine (eqv_46r a0 a1 a2 b0 b1 b2).trans (congrArg some ?_)
  rw [Bool.eq_iff_iff]
  simp
def same31_L1 (a : Nt) (b : NetM) : Nat → Int → (Bool) ⊕ (Int)
  | 0, s5 => .inr (s5)
  | fuel + 1, s5 =>
    if s5 ≤ (b.l.length : Int) then
      if from31_m ((pat_m a s5).1) = (rat_m b s5).1 then
        if ((pat_m a s5).2) = ((rat_m b s5).2) then
          same31_L1 a b fuel (s5 + 1)
        else
          .inl false
      else
        .inl false
    else
      .inr (s5)
def same31_m (a : Nt) (b : NetM) : Bool :=
  if (plen_m a) = (b.l.length : Int) then
    if (plost_m a) = b.count then
      match same31_L1 a b ((b.l.length + 1 - (-1 : Int)).toNat + 1) (-1 : Int) with
      | .inl r => r
      | .inr (s5) =>
        true
    else
      false
  else
    false

set_option maxRecDepth 20000 in
theorem same31_ok (X : List Nat) (w : World) (g_a : Nat) (A_a : Option Addr) (c_a : Nat) (sp_a : List Value) (a : Nt) (hok_a : (NtOk a ∧ NpOk ⟨g_a, A_a, c_a, sp_a⟩ a)) (g_b : Nat) (b : NetM) (A_b_c : Option Addr) (c_b_c : Nat) (sp_b_c : List Value) (A_b_l : Option Addr) (c_b_l : Nat) (hs : St X w [(some g_a, Cl (ntC A_a c_a a) 115), (blkOf A_a, Cl (rowC a.row ++ sp_a) 51), (some g_b, Cl [.slice A_b_c b.c.length c_b_c, .slice A_b_l b.l.length c_b_l, .int .i64 b.count] 118), (blkOf A_b_c, Cl (b.c.flatMap (fun x => [Value.int .i64 x]) ++ sp_b_c) 3)] [kS A_b_l b.l.length c_b_l 3 (b.l.flatMap msgC)]) (how_b_c : Ow A_b_c b.c.length c_b_c 1 (b.c.flatMap (fun x => [Value.int .i64 x])) sp_b_c) (hr : b.l.length ≤ 128) :
    Fn Try.prog 30 [.pointer (some ⟨g_a, 0, none⟩), .pointer (some ⟨g_b, 0, none⟩)] w fun v w' => v = .bool (same31_m a b) ∧ Fr [] w w' := by
  refine Fn_of 57 Ty.en_30 Try.func30 rfl rfl rfl ?_
  dsimp only [argEnv]
  have hs0 := hs
  have st : St X w [(some g_a, Cl (ntC A_a c_a a) 115), (blkOf A_a, Cl (rowC a.row ++ sp_a) 51), (some g_b, Cl [.slice A_b_c b.c.length c_b_c, .slice A_b_l b.l.length c_b_l, .int .i64 b.count] 118), (blkOf A_b_c, Cl (b.c.flatMap (fun x => [Value.int .i64 x]) ++ sp_b_c) 3)] [kS A_b_l b.l.length c_b_l 3 (b.l.flatMap msgC)] := hs
  have hnewA_b_c := True
  have hleA_b_c := Ow.le how_b_c
  have hF := Fr.refl ([]) w
  have hleA_b_l := (st.k (i := 0) rfl).le
  refine Wp_seq fun K1 hK1 => ?_
  refine Wp_region ?_
  refine Ls_y (wtd0 rfl) rfl rfl (y_assign rfl rfl) ?_
  refine Ls_nil (Th_n (hK1 _ _ ?_))
  refine Wp_seq fun K2 hK2 => ?_
  refine Wp_seq fun K3 hK3 => ?_
  refine Wp_plan (fun W => St X W (pickL (hOf st) [0, 1, 2, 3]) (kOf st)) [(true, 0), (true, 2), (true, 3), (true, 4), (true, 5), (true, 6), (false, 1), (true, 7), (true, 8), (true, 9), (true, 11), (true, 12), (true, 13), (true, 14), (false, 10), (true, 15), (true, 16)] Ty.mx_0 (by kernel_rfl) (by kernel_rfl) rfl ((st.picks [0, 1, 2, 3] (by decide)).drew) ?_
  have st := st.drew
  have hF := hF.step0 (Fr.drew _)
  refine Pl_y rfl (wtd0 rfl) rfl rfl (y_move rfl rfl) ?_
  refine Pl_y rfl (wtd0 rfl) rfl rfl (y_move rfl rfl) ?_
  refine Pl_y rfl (wtd0 rfl) rfl rfl (y_nil rfl rfl) ?_
  refine Pl_y rfl (wtd0 rfl) rfl rfl (y_fld rfl rfl Ty.fo_118_1) ?_
  refine Pl_y rfl (wtd0 rfl) rfl rfl (y_load (i := 2) rfl rfl Ty.pl_116 (fun _ h => h.hp) rfl rfl) ?_
  refine Pl_y rfl (wtd0 rfl) rfl rfl (y_lenl rfl rfl Try.underlying116) ?_
  refine Pl_a rfl (wtd0 rfl) (by rfl) ?_
  refine a_call rfl rfl rfl rfl (plen_ok (keys (pickL (hOf st) [2, 3]) ++ X) _ g_a A_a c_a sp_a a hok_a (st.sub [2, 3] [0, 1] [] (by decide))) (fun v w1 ⟨hv, hf⟩ => ?_)
  subst hv
  have st := st.keep0 hf
  have hF := hF.step0 hf
  have st : St X w1 [(some g_a, Cl (ntC A_a c_a a) 115), (blkOf A_a, Cl (rowC a.row ++ sp_a) 51), (some g_b, Cl [.slice A_b_c b.c.length c_b_c, .slice A_b_l b.l.length c_b_l, .int .i64 b.count] 118), (blkOf A_b_c, Cl (b.c.flatMap (fun x => [Value.int .i64 x]) ++ sp_b_c) 3)] [kS A_b_l b.l.length c_b_l 3 (b.l.flatMap msgC)] := st
  refine ⟨(st.picks [0, 1, 2, 3] (by decide)).takeK 1, ?_⟩
  refine Pl_y rfl (wtd0 rfl) rfl rfl (y_ne rfl rfl rfl) ?_
  refine Pl_y rfl (wtd0 rfl) rfl rfl (y_move rfl rfl) ?_
  refine Pl_bool 18 rfl (fun hc1 => ?_) (fun hc1 => ?_)
  · have hc1 : ¬ ((plen_m a) = (b.l.length : Int)) := by first | simpa using hc1 | (intro hh; rw [hh] at hc1; cases hc1)
    refine Pl_s rfl (wtdF rfl rfl rfl) rfl rfl ?_
    refine Pl_s rfl (wtdF rfl rfl rfl) rfl rfl ?_
    refine Pl_s rfl (wtdF rfl rfl rfl) rfl rfl ?_
    refine Pl_s rfl (wtdF rfl rfl rfl) rfl rfl ?_
    refine Pl_s rfl (wtdF rfl rfl rfl) rfl rfl ?_
    refine Pl_s rfl (wtdF rfl rfl rfl) rfl rfl ?_
    refine Pl_s rfl (wtdF rfl rfl rfl) rfl rfl ?_
    refine Pl_y rfl (wtd0 rfl) rfl rfl (y_pick_t rfl rfl rfl) ?_
    refine Pl_nil (Th_n (hK3 _ _ ?_))
    refine Wp_cond_t rfl ?_
    refine Wp_seq fun K4 hK4 => ?_
    refine Wp_region ?_
    refine Ls_y (wtd0 rfl) rfl rfl (y_assign rfl rfl) ?_
    refine Ls_nil (Th_n (hK4 _ _ ?_))
    refine Wp_ret (Th_r (Fq_ret (Res1 rfl rfl) ?_))
    have he1 : same31_m a b = false := by
      unfold same31_m
      all_goals rewrite [if_neg hc1]
      all_goals rfl
    rewrite [he1]
    exact ⟨rfl, hF⟩
  · have hc1 : (plen_m a) = (b.l.length : Int) := by first | simpa using hc1 | (intro hh; rw [hh] at hc1; cases hc1)
    refine Pl_y rfl (wtdT rfl rfl rfl) rfl rfl (y_move rfl rfl) ?_
    refine Pl_y rfl (wtdT rfl rfl rfl) rfl rfl (y_move rfl rfl) ?_
    refine Pl_y rfl (wtdT rfl rfl rfl) rfl rfl (y_nil rfl rfl) ?_
    refine Pl_y rfl (wtdT rfl rfl rfl) rfl rfl (y_fld rfl rfl Ty.fo_118_2) ?_
    refine Pl_y rfl (wtdT rfl rfl rfl) rfl rfl (y_load (i := 2) rfl rfl Ty.pl_3 (fun _ h => h.hp) rfl rfl) ?_
    refine Pl_a rfl (wtdT rfl rfl rfl) (by rfl) ?_
    refine a_call rfl rfl rfl rfl (plost_ok (keys (pickL (hOf st) [2, 3]) ++ X) _ g_a A_a c_a sp_a a hok_a (st.sub [2, 3] [0, 1] [] (by decide))) (fun v w2 ⟨hv, hf⟩ => ?_)
    subst hv
    have st := st.keep0 hf
    have hF := hF.step0 hf
    have st : St X w2 [(some g_a, Cl (ntC A_a c_a a) 115), (blkOf A_a, Cl (rowC a.row ++ sp_a) 51), (some g_b, Cl [.slice A_b_c b.c.length c_b_c, .slice A_b_l b.l.length c_b_l, .int .i64 b.count] 118), (blkOf A_b_c, Cl (b.c.flatMap (fun x => [Value.int .i64 x]) ++ sp_b_c) 3)] [kS A_b_l b.l.length c_b_l 3 (b.l.flatMap msgC)] := st
    refine ⟨(st.picks [0, 1, 2, 3] (by decide)).takeK 1, ?_⟩
    refine Pl_y rfl (wtdT rfl rfl rfl) rfl rfl (y_ne rfl rfl rfl) ?_
    refine Pl_y rfl (wtd0 rfl) rfl rfl (y_pick_f rfl rfl rfl) ?_
    refine Pl_nil (Th_n (hK3 _ _ ?_))
    refine Wp_cond rfl (fun hc2 => ?_) (fun hc2 => ?_)
    · have hc2 : ¬ ((plost_m a) = b.count) := by first | simpa using hc2 | (intro hh; rw [hh] at hc2; cases hc2)
      refine Wp_seq fun K5 hK5 => ?_
      refine Wp_region ?_
      refine Ls_y (wtd0 rfl) rfl rfl (y_assign rfl rfl) ?_
      refine Ls_nil (Th_n (hK5 _ _ ?_))
      refine Wp_ret (Th_r (Fq_ret (Res1 rfl rfl) ?_))
      have he2 : same31_m a b = false := by
        unfold same31_m
        all_goals rewrite [if_pos hc1]
        all_goals rewrite [if_neg hc2]
        all_goals rfl
      rewrite [he2]
      exact ⟨rfl, hF⟩
    · have hc2 : (plost_m a) = b.count := by first | simpa using hc2 | (intro hh; rw [hh] at hc2; cases hc2)
      refine Wp_skip (Th_n (hK2 _ _ ?_))
      refine Wp_seq fun K6 hK6 => ?_
      refine Wp_seq fun K7 hK7 => ?_
      refine Wp_region ?_
      refine Ls_y (wtd0 rfl) rfl rfl (y_assign rfl rfl) ?_
      refine Ls_nil (Th_n (hK7 _ _ ?_))
      refine Wp_block ?_
      refine use_out hK6 (fun E W => ∃ (s5 : Int), E = [(0, .pointer (some ⟨g_a, 0, none⟩)), (1, .pointer (some ⟨g_b, 0, none⟩)), (5, .int .i64 s5)] ∧ same31_L1 a b ((b.l.length + 1 - (-1 : Int)).toNat + 1) (-1 : Int) = .inr (s5) ∧ (-1 ≤ s5 ∧ s5 ≤ b.l.length + 1) ∧ St X W [(some g_a, Cl (ntC A_a c_a a) 115), (blkOf A_a, Cl (rowC a.row ++ sp_a) 51), (some g_b, Cl [.slice A_b_c b.c.length c_b_c, .slice A_b_l b.l.length c_b_l, .int .i64 b.count] 118), (blkOf A_b_c, Cl (b.c.flatMap (fun x => [Value.int .i64 x]) ++ sp_b_c) 3)] [kS A_b_l b.l.length c_b_l 3 (b.l.flatMap msgC)] ∧ Fr ([]) w W) ?_ fun hout1 => ?_
      · rintro E w3 ⟨s5, rfl, hLk1, hinv, st, hF⟩
        refine Wp_seq fun K8 hK8 => ?_
        refine Wp_region ?_
        refine Ls_y (wtd0 rfl) rfl rfl (y_assign rfl rfl) ?_
        refine Ls_nil (Th_n (hK8 _ _ ?_))
        refine Wp_ret (Fq_ret (Res1 rfl rfl) ?_)
        have he3 : same31_m a b = true := by
          unfold same31_m
          all_goals rewrite [if_pos hc1]
          all_goals rewrite [if_pos hc2]
          all_goals (rewrite [hLk1]; try dsimp only)
          all_goals rfl
        rewrite [he3]
        exact ⟨rfl, hF⟩
      · refine Wp_loopE (fun m E W => ∃ (s5 : Int), E = [(0, .pointer (some ⟨g_a, 0, none⟩)), (1, .pointer (some ⟨g_b, 0, none⟩)), (5, .int .i64 s5)] ∧ same31_L1 a b m s5 = same31_L1 a b ((b.l.length + 1 - (-1 : Int)).toNat + 1) (-1 : Int) ∧ (b.l.length + 1 - s5).toNat < m ∧ (-1 ≤ s5 ∧ s5 ≤ b.l.length + 1) ∧ St X W [(some g_a, Cl (ntC A_a c_a a) 115), (blkOf A_a, Cl (rowC a.row ++ sp_a) 51), (some g_b, Cl [.slice A_b_c b.c.length c_b_c, .slice A_b_l b.l.length c_b_l, .int .i64 b.count] 118), (blkOf A_b_c, Cl (b.c.flatMap (fun x => [Value.int .i64 x]) ++ sp_b_c) 3)] [kS A_b_l b.l.length c_b_l 3 (b.l.flatMap msgC)] ∧ Fr ([]) w W) ((b.l.length + 1 - (-1 : Int)).toNat + 1) [(0, _), (1, _), (5, _)] ⟨rfl, rfl, rfl, trivial⟩ ?_ ?_
        · exact ⟨_, rfl, rfl, Nat.lt_succ_self _, by first | omega | (simp; done) | (simp; omega), st, hF⟩
        rintro m E w4 ⟨s5, rfl, hL1, hmu, hinv, st, hF⟩
        obtain ⟨fuel, rfl⟩ : ∃ q, m = q + 1 := ⟨m - 1, by omega⟩
        refine Wp_seq fun K9 hK9 => ?_
        refine Wp_seq fun K10 hK10 => ?_
        refine Wp_region ?_
        refine Ls_y (wtd0 rfl) rfl rfl (y_move rfl rfl) ?_
        refine Ls_y (wtd0 rfl) rfl rfl (y_move rfl rfl) ?_
        refine Ls_y (wtd0 rfl) rfl rfl (y_nil rfl rfl) ?_
        refine Ls_y (wtd0 rfl) rfl rfl (y_fld rfl rfl Ty.fo_118_1) ?_
        refine Ls_y (wtd0 rfl) rfl rfl (y_load (i := 2) rfl rfl Ty.pl_116 (fun _ e => e ▸ st.hp) rfl rfl) ?_
        refine Ls_y (wtd0 rfl) rfl rfl (y_lenl rfl rfl Try.underlying116) ?_
        refine Ls_y (wtd0 rfl) rfl rfl (y_le rfl rfl rfl) ?_
        refine Ls_nil (Th_n (hK10 _ _ ?_))
        refine Wp_cond rfl (fun hc3 => ?_) (fun hc3 => ?_)
        · have hc3 : s5 ≤ (b.l.length : Int) := by first | simpa using hc3 | (intro hh; rw [hh] at hc3; cases hc3)
          refine Wp_skip (Th_n (hK9 _ _ ?_))
          refine Wp_seq fun K11 hK11 => ?_
          refine Wp_block ?_
          refine Wp_seq fun K12 hK12 => ?_
          refine Wp_region ?_
          refine Ls_y (wtd0 rfl) rfl rfl (y_move rfl rfl) ?_
          refine Ls_y (wtd0 rfl) rfl rfl (y_move rfl rfl) ?_
          refine Ls_a (wtd0 rfl) ?_
          refine a_call rfl rfl rfl rfl (pat_ok (keys (pickL (hOf st) [2, 3]) ++ X) _ g_a A_a c_a sp_a a hok_a s5 (st.sub [2, 3] [0, 1] [] (by decide))) (fun v w5 ⟨hv, hf⟩ => ?_)
          subst hv
          have st := st.keep0 hf
          have hF := hF.step0 hf
          have st : St X w5 [(some g_a, Cl (ntC A_a c_a a) 115), (blkOf A_a, Cl (rowC a.row ++ sp_a) 51), (some g_b, Cl [.slice A_b_c b.c.length c_b_c, .slice A_b_l b.l.length c_b_l, .int .i64 b.count] 118), (blkOf A_b_c, Cl (b.c.flatMap (fun x => [Value.int .i64 x]) ++ sp_b_c) 3)] [kS A_b_l b.l.length c_b_l 3 (b.l.flatMap msgC)] := st
          refine Ls_y (wtd0 rfl) rfl rfl (y_move rfl rfl) ?_
          refine Ls_y (wtd0 rfl) rfl rfl (y_ext rfl rfl rfl) ?_
          refine Ls_y (wtd0 rfl) rfl rfl (y_ext rfl rfl rfl) ?_
          refine Ls_a (wtd0 rfl) ?_
          refine a_alloc rfl rfl rfl Ty.zc_51 st.hp (fun g1 w6 (hp : Hp w6 [_, _, (_, Cl [_, _, _] _), _, (_, Cl [_, _, _] _)]) hf hg1 => ?_)
          have st : St X w6 [_, _, (_, Cl [_, _, _] _), _, (_, Cl [_, _, _] _)] [kS A_b_l b.l.length c_b_l 3 (b.l.flatMap msgC)] := st.push hp hf hg1
          have hg1 := Nat.le_trans hF.size hg1
          have hF := hF.step0 hf
          refine Ls_a (wtd0 rfl) ?_
          refine a_storew (i := 4) rfl rfl rfl rfl Ty.sz_51 rfl (by first | assumption | (simp [Value.oneCell', msgC]; done)) st.hp rfl rfl (fun w7 (hp : Hp w7 [_, _, (_, Cl [_, _, _] _), _, (_, Cl [_, _, _] _)]) hf _ => ?_)
          have st : St X w7 [_, _, (_, Cl [_, _, _] _), _, (_, Cl [_, _, _] _)] [kS A_b_l b.l.length c_b_l 3 (b.l.flatMap msgC)] := st.set (i := 4) rfl hp hf
          have hF := hF.step hf (by intro y hy; simp only [List.mem_cons, List.not_mem_nil, or_false] at hy; subst hy; first | (exact Or.inr (by omega)) | (exact Or.inl (kin0 _ _)) | (exact Or.inl (by simp)))
          refine Ls_y (wtd0 rfl) rfl rfl (y_assign rfl rfl) ?_
          refine Ls_nil (Th_n (hK12 _ _ ?_))
          refine Wp_seq fun K13 hK13 => ?_
          refine Wp_region ?_
          refine Ls_y (wtd0 rfl) rfl rfl (y_move rfl rfl) ?_
          refine Ls_y (wtd0 rfl) rfl rfl (y_move rfl rfl) ?_
          refine Ls_a (wtd0 rfl) ?_
          refine a_call rfl rfl rfl rfl (rat_ok (keys (pickL (hOf st) [0, 1, 4]) ++ X) _ g_b b A_b_c c_b_c sp_b_c A_b_l c_b_l s5 (st.sub [0, 1, 4] [2, 3] [0] (by decide)) how_b_c) (fun v w8 ⟨hv, hf⟩ => ?_)
          subst hv
          have st := st.keep0 hf
          have hF := hF.step0 hf
          have st : St X w8 [(some g_a, Cl (ntC A_a c_a a) 115), (blkOf A_a, Cl (rowC a.row ++ sp_a) 51), (some g_b, Cl [.slice A_b_c b.c.length c_b_c, .slice A_b_l b.l.length c_b_l, .int .i64 b.count] 118), (blkOf A_b_c, Cl (b.c.flatMap (fun x => [Value.int .i64 x]) ++ sp_b_c) 3), (some g1, Cl [.int .i64 (((pat_m a s5).1).f), .int .i64 (((pat_m a s5).1).t), sv (((pat_m a s5).1).s)] 51)] [kS A_b_l b.l.length c_b_l 3 (b.l.flatMap msgC)] := st
          refine Ls_y (wtd0 rfl) rfl rfl (y_move rfl rfl) ?_
          refine Ls_y (wtd0 rfl) rfl rfl (y_ext rfl rfl rfl) ?_
          refine Ls_y (wtd0 rfl) rfl rfl (y_ext rfl rfl rfl) ?_
          refine Ls_a (wtd0 rfl) ?_
          refine a_alloc rfl rfl rfl Ty.zc_46 st.hp (fun g2 w9 (hp : Hp w9 [_, _, (_, Cl [_, _, _] _), _, (_, Cl [_, _, _] _), (_, Cl [_, _, _] _)]) hf hg2 => ?_)
          have st : St X w9 [_, _, (_, Cl [_, _, _] _), _, (_, Cl [_, _, _] _), (_, Cl [_, _, _] _)] [kS A_b_l b.l.length c_b_l 3 (b.l.flatMap msgC)] := st.push hp hf hg2
          have hg2 := Nat.le_trans hF.size hg2
          have hF := hF.step0 hf
          refine Ls_a (wtd0 rfl) ?_
          refine a_storew (i := 5) rfl rfl rfl rfl Ty.sz_46 rfl (by first | assumption | (simp [Value.oneCell', msgC]; done)) st.hp rfl rfl (fun w10 (hp : Hp w10 [_, _, (_, Cl [_, _, _] _), _, (_, Cl [_, _, _] _), (_, Cl [_, _, _] _)]) hf _ => ?_)
          have st : St X w10 [_, _, (_, Cl [_, _, _] _), _, (_, Cl [_, _, _] _), (_, Cl [_, _, _] _)] [kS A_b_l b.l.length c_b_l 3 (b.l.flatMap msgC)] := st.set (i := 5) rfl hp hf
          have hF := hF.step hf (by intro y hy; simp only [List.mem_cons, List.not_mem_nil, or_false] at hy; subst hy; first | (exact Or.inr (by omega)) | (exact Or.inl (kin0 _ _)) | (exact Or.inl (by simp)))
          refine Ls_y (wtd0 rfl) rfl rfl (y_assign rfl rfl) ?_
          refine Ls_nil (Th_n (hK13 _ _ ?_))
          refine Wp_seq fun K14 hK14 => ?_
          refine Wp_plan (fun W => St X W (pickL (hOf st) [0, 1, 2, 3, 4, 5]) (kOf st)) [(true, 0), (true, 2), (false, 1), (true, 3), (true, 4), (true, 5), (true, 6), (true, 7), (true, 8)] Ty.mx_0 (by kernel_rfl) (by kernel_rfl) rfl ((st.picks [0, 1, 2, 3, 4, 5] (by decide)).drew) ?_
          have st := st.drew
          have hF := hF.step0 (Fr.drew _)
          refine Pl_y rfl (wtd0 rfl) rfl rfl (y_loadw (i := 4) rfl rfl Ty.ag_51 (fun _ h => h.hp) rfl rfl) ?_
          refine Pl_y rfl (wtd0 rfl) rfl rfl (y_loadw (i := 5) rfl rfl Ty.ag_46 (fun _ h => h.hp) rfl rfl) ?_
          refine Pl_a rfl (wtd0 rfl) (by rfl) ?_
          refine a_call rfl rfl rfl rfl (from31_ok _ ((pat_m a s5).1)) (fun v w11 ⟨hv, hf⟩ => ?_)
          subst hv
          have st := st.keep0 hf
          have hF := hF.step0 hf
          have st : St X w11 [_, _, (_, Cl [_, _, _] _), _, (_, Cl [_, _, _] _), (_, Cl [_, _, _] _)] [kS A_b_l b.l.length c_b_l 3 (b.l.flatMap msgC)] := st
          refine ⟨(st.picks [0, 1, 2, 3, 4, 5] (by decide)).takeK 1, ?_⟩
          refine Pl_y rfl (wtd0 rfl) rfl rfl (y_nev (b := decide (from31_m ((pat_m a s5).1) = (rat_m b s5).1)) rfl rfl rfl Ty.eg_46 (by rw [Ty.ag_46]; simp) (eqv_46 (from31_m ((pat_m a s5).1)) ((rat_m b s5).1))) ?_
          refine Pl_y rfl (wtd0 rfl) rfl rfl (y_move rfl rfl) ?_
          refine Pl_bool 52 rfl (fun hc4 => ?_) (fun hc4 => ?_)
          · have hc4 : ¬ (from31_m ((pat_m a s5).1) = (rat_m b s5).1) := by first | simpa using hc4 | (intro hh; rw [hh] at hc4; cases hc4)
            refine Pl_s rfl (wtdF rfl rfl rfl) rfl rfl ?_
            refine Pl_s rfl (wtdF rfl rfl rfl) rfl rfl ?_
            refine Pl_s rfl (wtdF rfl rfl rfl) rfl rfl ?_
            refine Pl_y rfl (wtd0 rfl) rfl rfl (y_pick_t rfl rfl rfl) ?_
            refine Pl_nil (Th_n (hK14 _ _ ?_))
            refine Wp_cond_t rfl ?_
            refine Wp_seq fun K15 hK15 => ?_
            refine Wp_region ?_
            refine Ls_y (wtd0 rfl) rfl rfl (y_assign rfl rfl) ?_
            refine Ls_nil (Th_n (hK15 _ _ ?_))
            refine Wp_ret (Ib_r (Th_r (Th_r (Ib_r (Th_r (Fq_ret (Res1 rfl rfl) ?_))))))
            have hret1 : same31_L1 a b ((b.l.length + 1 - (-1 : Int)).toNat + 1) (-1 : Int) = .inl false := by
              rewrite [← hL1, same31_L1]
              all_goals rewrite [if_pos hc3]
              all_goals rewrite [if_neg hc4]
              all_goals rfl
            have he4 : same31_m a b = false := by
              unfold same31_m
              all_goals rewrite [if_pos hc1]
              all_goals rewrite [if_pos hc2]
              all_goals (rewrite [hret1]; try dsimp only)
              all_goals rfl
            rewrite [he4]
            exact ⟨rfl, hF⟩
          · have hc4 : from31_m ((pat_m a s5).1) = (rat_m b s5).1 := by first | simpa using hc4 | (intro hh; rw [hh] at hc4; cases hc4)
            refine Pl_y rfl (wtdT rfl rfl rfl) rfl rfl (y_move rfl rfl) ?_
            refine Pl_y rfl (wtdT rfl rfl rfl) rfl rfl (y_move rfl rfl) ?_
            refine Pl_y rfl (wtdT rfl rfl rfl) rfl rfl (y_ne rfl rfl rfl) ?_
            refine Pl_y rfl (wtd0 rfl) rfl rfl (y_pick_f rfl rfl rfl) ?_
            refine Pl_nil (Th_n (hK14 _ _ ?_))
            refine Wp_cond rfl (fun hc5 => ?_) (fun hc5 => ?_)
            · have hc5 : ¬ (((pat_m a s5).2) = ((rat_m b s5).2)) := by first | simpa using hc5 | (intro hh; rw [hh] at hc5; cases hc5)
              refine Wp_seq fun K16 hK16 => ?_
              refine Wp_region ?_
              refine Ls_y (wtd0 rfl) rfl rfl (y_assign rfl rfl) ?_
              refine Ls_nil (Th_n (hK16 _ _ ?_))
              refine Wp_ret (Ib_r (Th_r (Th_r (Ib_r (Th_r (Fq_ret (Res1 rfl rfl) ?_))))))
              have hret2 : same31_L1 a b ((b.l.length + 1 - (-1 : Int)).toNat + 1) (-1 : Int) = .inl false := by
                rewrite [← hL1, same31_L1]
                all_goals rewrite [if_pos hc3]
                all_goals rewrite [if_pos hc4]
                all_goals rewrite [if_neg hc5]
                all_goals rfl
              have he5 : same31_m a b = false := by
                unfold same31_m
                all_goals rewrite [if_pos hc1]
                all_goals rewrite [if_pos hc2]
                all_goals (rewrite [hret2]; try dsimp only)
                all_goals rfl
              rewrite [he5]
              exact ⟨rfl, hF⟩
            · have hc5 : ((pat_m a s5).2) = ((rat_m b s5).2) := by first | simpa using hc5 | (intro hh; rw [hh] at hc5; cases hc5)
              refine Wp_skip (Ib_n (Th_n (hK11 _ _ ?_)))
              refine Wp_region ?_
              refine Ls_y (wtd0 rfl) rfl rfl (y_move rfl rfl) ?_
              refine Ls_y (wtd0 rfl) rfl rfl (y_add (c := s5 + 1) rfl rfl rfl (wf_i64 (by first | omega | (simp; done) | (simp; omega)))) ?_
              refine Ls_y (wtd0 rfl) rfl rfl (y_assign rfl rfl) ?_
              refine Ls_nil (Th_n (?_))
              have hE1 : same31_L1 a b fuel (s5 + 1) = same31_L1 a b ((b.l.length + 1 - (-1 : Int)).toNat + 1) (-1 : Int) := by
                rewrite [← hL1, same31_L1]
                all_goals rewrite [if_pos hc3]
                all_goals rewrite [if_pos hc4]
                all_goals rewrite [if_pos hc5]
                all_goals rfl
              exact ⟨fuel, [(0, _), (1, _), (5, _)], Nat.lt_succ_self _, ⟨rfl, rfl, rfl, trivial⟩, (s5 + 1), rfl, hE1, by first | omega | (simp; done) | (simp; omega), by first | omega | (simp; done) | (simp; omega), (st.picks [0, 1, 2, 3] (by decide)).pickK [0], hF⟩
        · have hc3 : ¬ (s5 ≤ (b.l.length : Int)) := by first | simpa using hc3 | (intro hh; rw [hh] at hc3; cases hc3)
          refine Wp_exit (Th_e (Th_e (Ib_hit (Th_n (?_)))))
          have hE2 : same31_L1 a b ((b.l.length + 1 - (-1 : Int)).toNat + 1) (-1 : Int) = .inr (s5) := by
            rewrite [← hL1, same31_L1]
            all_goals rewrite [if_neg hc3]
            all_goals rfl
          exact hout1 _ [(0, _), (1, _), (5, _)] _ ⟨rfl, rfl, rfl, trivial⟩ ⟨s5, rfl, hE2, by first | omega | (simp; done) | (simp; omega), (st.picks [0, 1, 2, 3] (by decide)).pickK [0], hF⟩

end Go.Proofs.Ytikdpkhcegjmfaa

/- Plain: messages on their way (chapter 31). -/
import Derived.Test.YtikdpkhcegjmfaaSh
import Derived.Test.YtikdpkhcegjmfaaSg
namespace Go.Proofs.Ytikdpkhcegjmfaa
abbrev iV (q : Int) : Value := .int .i64 q

structure MsgV where
  f : Int
  t : Int
  s : List UInt8
def msgC (m : MsgV) : List Value := [.int .i64 m.f, .int .i64 m.t, sv m.s]
def msg0 : MsgV := ⟨0, 0, []⟩
def rowC (l : List MsgV) : List Value := l.flatMap msgC
structure Nt where
  nodes : Nat
  cols : List Int
  row : List MsgV
  lost : Int
structure NtOk (T : Nt) : Prop where
  lo : 1 ≤ T.nodes
  hi : T.nodes ≤ 32
  len : T.cols.length = T.nodes
  row : T.row.length ≤ 128
  l0 : 0 ≤ T.lost

def nodeB (T : Nt) (k : Int) : Bool := decide (0 ≤ k ∧ k < (T.nodes : Int))
def apartB (T : Nt) (a b : Int) : Bool := nodeB T a && (nodeB T b && decide ((T.cols[a.toNat]?).getD 0 ≠ (T.cols[b.toNat]?).getD 0))
def badB (T : Nt) (m : MsgV) : Bool := !nodeB T m.f || (!nodeB T m.t || decide (m.f = m.t))
def sendE (T : Nt) (m : MsgV) : Int := if badB T m = true then 2 else if 32768 < m.s.length then 8 else if apartB T m.f m.t = true then 9 else if 128 ≤ T.row.length then 4 else 0
def sendT (T : Nt) (m : MsgV) : Nt := if badB T m = true then T else if 32768 < m.s.length then T else if apartB T m.f m.t = true then { T with lost := T.lost + 1 } else if 128 ≤ T.row.length then { T with lost := T.lost + 1 } else { T with row := T.row ++ [m] }
def inB (T : Nt) (i : Int) : Bool := decide (0 ≤ i ∧ i < (T.row.length : Int))
def atE (T : Nt) (i : Int) : Int := if inB T i = true then 0 else 2
def atM (T : Nt) (i : Int) : MsgV := if inB T i = true then (T.row[i.toNat]?).getD msg0 else msg0
def takeE (T : Nt) (i : Int) : Int := if inB T i = false then 2 else if apartB T (atM T i).f (atM T i).t = true then 9 else 0
def takeM (T : Nt) (i : Int) : MsgV := if takeE T i = 0 then atM T i else msg0
def takeT (T : Nt) (i : Int) : Nt := if takeE T i = 0 then { T with row := T.row.eraseIdx i.toNat } else T
def dropT (T : Nt) (i : Int) : Nt := if inB T i = true then { T with row := T.row.eraseIdx i.toNat, lost := T.lost + 1 } else T
def dblE (T : Nt) (i : Int) : Int := if inB T i = false then 2 else if 128 ≤ T.row.length then 4 else 0
def dblT (T : Nt) (i : Int) : Nt := if dblE T i = 0 then { T with row := T.row ++ [atM T i] } else T
def paintE (T : Nt) (i c : Int) : Int := if nodeB T i = true ∧ 0 ≤ c ∧ c < 16 then 0 else 2
def paintT (T : Nt) (i c : Int) : Nt := if paintE T i c = 0 then { T with cols := T.cols.set i.toNat c } else T
def newT (n : Nat) : Nt := ⟨n, List.replicate n 0, [], 0⟩

theorem newT_ok {n : Nat} (h1 : 1 ≤ n) (h2 : n ≤ 32) : NtOk (newT n) := ⟨h1, h2, by simp [newT], by simp [newT], by simp [newT]⟩
theorem sendT_ok {T : Nt} (h : NtOk T) (m : MsgV) : NtOk (sendT T m) ∧ (sendT T m).lost ≤ T.lost + 1 := by
  have := h.l0
  unfold sendT
  split
  · exact ⟨h, by omega⟩
  · split
    · exact ⟨h, by omega⟩
    · split
      · exact ⟨⟨h.lo, h.hi, h.len, h.row, by simp only; omega⟩, by simp⟩
      · split
        · exact ⟨⟨h.lo, h.hi, h.len, h.row, by simp only; omega⟩, by simp⟩
        · exact ⟨⟨h.lo, h.hi, h.len, by simp; omega, h.l0⟩, by simp only; omega⟩
theorem takeT_ok {T : Nt} (h : NtOk T) (i : Int) : NtOk (takeT T i) ∧ (takeT T i).lost = T.lost := by
  unfold takeT
  split
  · exact ⟨⟨h.lo, h.hi, h.len, Nat.le_trans (List.length_eraseIdx_le _ _) h.row, h.l0⟩, rfl⟩
  · exact ⟨h, rfl⟩
theorem dropT_ok {T : Nt} (h : NtOk T) (i : Int) : NtOk (dropT T i) ∧ (dropT T i).lost ≤ T.lost + 1 := by
  have := h.l0
  unfold dropT
  split
  · exact ⟨⟨h.lo, h.hi, h.len, Nat.le_trans (List.length_eraseIdx_le _ _) h.row, by simp only; omega⟩, by simp⟩
  · exact ⟨h, by omega⟩
theorem dblT_ok {T : Nt} (h : NtOk T) (i : Int) : NtOk (dblT T i) ∧ (dblT T i).lost = T.lost := by
  unfold dblT
  split
  · rename_i he
    refine ⟨⟨h.lo, h.hi, h.len, ?_, h.l0⟩, rfl⟩
    unfold dblE at he
    split at he
    · omega
    · split at he
      · omega
      · simp; omega
  · exact ⟨h, rfl⟩
theorem paintT_ok {T : Nt} (h : NtOk T) (i c : Int) : NtOk (paintT T i c) ∧ (paintT T i c).lost = T.lost := by
  unfold paintT
  split
  · exact ⟨⟨h.lo, h.hi, by simpa using h.len, h.row, h.l0⟩, rfl⟩
  · exact ⟨h, rfl⟩

/-- The program's struct: nodes, 32 colours, the row, the lost. -/
def colC (T : Nt) : List Value := (T.cols ++ List.replicate (32 - T.nodes) 0).map iV
def ntC (A : Option Addr) (c : Nat) (T : Nt) : List Value := .int .i64 (T.nodes : Int) :: (colC T ++ [.slice A T.row.length c, .int .i64 T.lost])
theorem colC_len {T : Nt} (h : NtOk T) : (colC T).length = 32 := by
  have := h.hi
  simp [colC, h.len]; omega
theorem nt_row {T : Nt} (h : NtOk T) (A : Option Addr) (c : Nat) : (ntC A c T)[0 + 33]? = some (.slice A T.row.length c) := by
  have := colC_len h
  rw [ntC, show 0 + 33 = 32 + 1 from rfl, List.getElem?_cons_succ, List.getElem?_append_right (by omega), this]; rfl
theorem nt_lost {T : Nt} (h : NtOk T) (A : Option Addr) (c : Nat) : (ntC A c T)[0 + 34]? = some (.int .i64 T.lost) := by
  have := colC_len h
  rw [ntC, show 0 + 34 = 33 + 1 from rfl, List.getElem?_cons_succ, List.getElem?_append_right (by omega), this]; rfl
theorem nt_col {T : Nt} (h : NtOk T) (A : Option Addr) (c : Nat) {j : Nat} (hj : j < T.nodes) : (ntC A c T)[0 + 1 + j * 1]? = some (.int .i64 ((T.cols[j]?).getD 0)) := by
  have h1 := h.hi
  have h2 := h.len
  rw [ntC, show 0 + 1 + j * 1 = j + 1 by omega, List.getElem?_cons_succ, List.getElem?_append_left (by rw [colC_len h]; omega), colC, List.getElem?_map, List.getElem?_append_left (by omega), List.getElem?_eq_getElem (by omega)]
  rfl
theorem nt_set_row {T : Nt} (h : NtOk T) (A A' : Option Addr) (c c' : Nat) (row : List MsgV) : (ntC A c T).set (0 + 33) (.slice A' row.length c') = ntC A' c' { T with row := row } := by
  have := colC_len h
  rw [ntC, show 0 + 33 = 32 + 1 from rfl, List.set_cons_succ, List.set_append_right _ _ (by omega), this]; rfl
theorem nt_set_lost {T : Nt} (h : NtOk T) (A : Option Addr) (c : Nat) (q : Int) : (ntC A c T).set (0 + 34) (.int .i64 q) = ntC A c { T with lost := q } := by
  have := colC_len h
  rw [ntC, show 0 + 34 = 33 + 1 from rfl, List.set_cons_succ, List.set_append_right _ _ (by omega), this]; rfl
theorem nt_set_col {T : Nt} (h : NtOk T) (A : Option Addr) (c : Nat) {j : Nat} (hj : j < T.nodes) (q : Int) : (ntC A c T).set (0 + 1 + j * 1) (.int .i64 q) = ntC A c { T with cols := T.cols.set j q } := by
  have h1 := h.hi
  have h2 := h.len
  rw [ntC, show 0 + 1 + j * 1 = j + 1 by omega, List.set_cons_succ, List.set_append_left _ _ (by rw [colC_len h]; omega)]
  have e : (colC T).set j (.int .i64 q) = colC { T with cols := T.cols.set j q } := by
    unfold colC
    rw [← List.map_set (f := iV), List.set_append_left _ _ (by omega)]
  rw [e]; rfl
theorem rowC_len (l : List MsgV) : (rowC l).length = l.length * 3 := by
  induction l with
  | nil => rfl
  | cons m l ih => unfold rowC at ih ⊢; rw [List.flatMap_cons, List.length_append, ih]; simp [msgC]; omega
theorem rowC_app (a b : List MsgV) : rowC (a ++ b) = rowC a ++ rowC b := by unfold rowC; rw [List.flatMap_append]
theorem rowC_one {l : List MsgV} : ∀ v ∈ rowC l, v.oneCell' = true := fun v hv => by
  obtain ⟨m, _, hm⟩ := List.mem_flatMap.1 hv
  simp only [msgC, List.mem_cons, List.not_mem_nil, or_false] at hm
  rcases hm with rfl | rfl | rfl <;> rfl
theorem rowC_take (l : List MsgV) (k : Nat) : rowC (l.take k) = (rowC l).take (k * 3) := by
  induction l generalizing k with
  | nil => simp [rowC]
  | cons m l ih =>
    cases k with
    | zero => simp [rowC]
    | succ k =>
      have := ih k
      unfold rowC at this ⊢
      rw [List.take_succ_cons, List.flatMap_cons, List.flatMap_cons, this, show (k + 1) * 3 = (msgC m).length + k * 3 by simp [msgC]; omega, List.take_length_add_append]
theorem rowC_drop (l : List MsgV) (k : Nat) : rowC (l.drop k) = (rowC l).drop (k * 3) := by
  induction l generalizing k with
  | nil => simp [rowC]
  | cons m l ih =>
    cases k with
    | zero => simp [rowC]
    | succ k =>
      have := ih k
      unfold rowC at this ⊢
      rw [List.drop_succ_cons, List.flatMap_cons, this, show (k + 1) * 3 = (msgC m).length + k * 3 by simp [msgC]; omega, List.drop_length_add_append]
theorem rowC_get {l : List MsgV} {k : Nat} {m : MsgV} (h : l[k]? = some m) (sp : List Value) : ((rowC l ++ sp).drop (0 + k * 3)).take 3 = msgC m := by
  obtain ⟨hl, rfl⟩ := List.getElem?_eq_some_iff.1 h
  have hlen := rowC_len l
  rw [Nat.zero_add, List.drop_append_of_le_length (by omega), List.take_append_of_le_length (by rw [List.length_drop]; omega), ← rowC_drop, List.drop_eq_getElem_cons hl]
  unfold rowC
  rw [List.flatMap_cons, List.take_left']
  rfl
end Go.Proofs.Ytikdpkhcegjmfaa

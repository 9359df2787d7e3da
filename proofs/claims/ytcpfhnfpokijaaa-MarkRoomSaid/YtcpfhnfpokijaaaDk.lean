/- Plain: a disk as lists of rows of 64 bytes. -/
import Derived.Test.YtcpfhnfpokijaaaSq
namespace Go.Proofs.Ytcpfhnfpokijaaa

structure Dk where
  now : List (List UInt8)
  lasts : List (List UInt8)
  armed : Bool
  left : Int
  down : Bool

def Rows64 (l : List (List UInt8)) : Prop := ∀ r ∈ l, r.length = 64
structure DkOk (D : Dk) : Prop where
  len : D.lasts.length = D.now.length
  now : Rows64 D.now
  lasts : Rows64 D.lasts
  pos : 1 ≤ D.now.length
  most : D.now.length ≤ 1024
  lo : -1 ≤ D.left
  arm : D.down = false → D.armed = true → 0 ≤ D.left
  hi : D.left ≤ 9223372036854775807

def rowsV (l : List (List UInt8)) : List Value := l.flatten.map bv

theorem flat_len : ∀ (l : List (List UInt8)), Rows64 l → l.flatten.length = l.length * 64
  | [], _ => rfl
  | r :: l, h => by
    have h1 := h r (by simp)
    have h2 := flat_len l (fun x hx => h x (by simp [hx]))
    simp only [List.flatten_cons, List.length_append, List.length_cons, h1, h2]
    omega
theorem flat_take : ∀ (l : List (List UInt8)) (k : Nat), Rows64 l → l.flatten.take (k * 64) = (l.take k).flatten
  | [], k, _ => by simp
  | r :: l, 0, _ => by simp
  | r :: l, k + 1, h => by
    have h1 := h r (by simp)
    rw [List.flatten_cons, List.take_succ_cons, List.flatten_cons, ← flat_take l k (fun x hx => h x (by simp [hx])), show (k + 1) * 64 = r.length + k * 64 by rw [h1]; omega, List.take_length_add_append]
theorem flat_drop : ∀ (l : List (List UInt8)) (k : Nat), Rows64 l → l.flatten.drop (k * 64) = (l.drop k).flatten
  | [], k, _ => by simp
  | r :: l, 0, _ => by simp
  | r :: l, k + 1, h => by
    have h1 := h r (by simp)
    rw [List.flatten_cons, List.drop_succ_cons, ← flat_drop l k (fun x hx => h x (by simp [hx])), show (k + 1) * 64 = r.length + k * 64 by rw [h1]; omega, List.drop_length_add_append]
theorem rowsV_len {l : List (List UInt8)} (h : Rows64 l) : (rowsV l).length = l.length * 64 := by unfold rowsV; rw [List.length_map, flat_len l h]
theorem rowsV_take {l : List (List UInt8)} (h : Rows64 l) (k : Nat) : (rowsV l).take (k * 64) = rowsV (l.take k) := by unfold rowsV; rw [← List.map_take, flat_take l k h]
theorem rowsV_drop {l : List (List UInt8)} (h : Rows64 l) (k : Nat) : (rowsV l).drop (k * 64) = rowsV (l.drop k) := by unfold rowsV; rw [← List.map_drop, flat_drop l k h]
theorem rowsV_one {l : List (List UInt8)} : ∀ v ∈ rowsV l, v.oneCell' = true := fun v hv => by
  unfold rowsV at hv
  obtain ⟨b, _, rfl⟩ := List.mem_map.1 hv
  rfl
theorem bytes_one {l : List UInt8} : ∀ v ∈ l.map bv, v.oneCell' = true := fun v hv => by
  obtain ⟨b, _, rfl⟩ := List.mem_map.1 hv
  rfl
theorem rowsV_get {l : List (List UInt8)} (h : Rows64 l) {k : Nat} {r : List UInt8} (hk : l[k]? = some r) : ((rowsV l).drop (k * 64)).take 64 = r.map bv := by
  obtain ⟨hl, rfl⟩ := List.getElem?_eq_some_iff.1 hk
  rw [rowsV_drop h, List.drop_eq_getElem_cons hl]
  unfold rowsV
  rw [List.flatten_cons, List.map_append, List.take_left']
  rw [List.length_map]
  exact h _ (List.getElem_mem hl)
theorem rows64_set {l : List (List UInt8)} (h : Rows64 l) (k : Nat) {r : List UInt8} (hr : r.length = 64) : Rows64 (l.set k r) := fun x hx => by
  rcases List.mem_or_eq_of_mem_set hx with hx | rfl
  · exact h x hx
  · exact hr
theorem rowsV_set {l : List (List UInt8)} (h : Rows64 l) {k : Nat} (hk : k < l.length) {r : List UInt8} (hr : r.length = 64) :
    (rowsV l).take (0 + k * 64) ++ r.map bv ++ (rowsV l).drop (0 + k * 64 + (r.map bv).length) = rowsV (l.set k r) := by
  rw [Nat.zero_add, List.length_map, hr, show k * 64 + 64 = (k + 1) * 64 by omega, rowsV_take h, rowsV_drop h, List.set_eq_take_append_cons_drop, if_pos hk]
  unfold rowsV
  simp

theorem rowsV_getS {l : List (List UInt8)} (h : Rows64 l) {k : Nat} {r : List UInt8} (hk : l[k]? = some r) (sp : List Value) : ((rowsV l ++ sp).drop (k * 64)).take 64 = r.map bv := by
  obtain ⟨hl, _⟩ := List.getElem?_eq_some_iff.1 hk
  have h2 := rowsV_len h
  rw [List.drop_append_of_le_length (by rw [h2]; omega), List.take_append_of_le_length, rowsV_get h hk]
  rw [List.length_drop, h2]; omega
theorem rowsV_get0 {l : List (List UInt8)} (h : Rows64 l) {k : Nat} (hk : k < l.length) (sp : List Value) : ((rowsV l ++ sp).drop (0 + k * 64)).take 64 = (l[k]).map bv := by
  rw [Nat.zero_add]; exact rowsV_getS h (List.getElem?_eq_getElem hk) sp
theorem rowsV_setS {l : List (List UInt8)} (h : Rows64 l) {k : Nat} (hk : k < l.length) {r : List UInt8} (hr : r.length = 64) (sp : List Value) :
    (rowsV l ++ sp).take (0 + k * 64) ++ r.map bv ++ (rowsV l ++ sp).drop (0 + k * 64 + (r.map bv).length) = rowsV (l.set k r) ++ sp := by
  have h2 := rowsV_len h
  have h3 := rowsV_set h hk hr
  rw [List.take_append_of_le_length (by rw [h2]; omega), List.drop_append_of_le_length (by rw [h2, List.length_map, hr]; omega), ← h3]
  simp [List.append_assoc]
theorem rowsV_splice {l : List (List UInt8)} (h : Rows64 l) {k : Nat} (hk : k < l.length) {a : List UInt8} (ha : a.length ≤ 64) (sp : List Value) :
    (rowsV l ++ sp).take (0 + k * 64 + 0 * 1) ++ a.map bv ++ (rowsV l ++ sp).drop (0 + k * 64 + 0 * 1 + (a.map bv).length) = rowsV (l.set k (a ++ (l[k]).drop a.length)) ++ sp := by
  have hk64 : (l[k]).length = 64 := h _ (List.getElem_mem hk)
  have hs := rowsV_setS h hk (r := a ++ (l[k]).drop a.length) (by simp; omega) sp
  rw [← hs]
  have h2 := rowsV_len h
  have e1 : 0 + k * 64 + 0 * 1 = 0 + k * 64 := by omega
  rw [e1, List.map_append, List.append_assoc, List.append_assoc, List.append_assoc, List.append_cancel_left_eq, List.append_cancel_left_eq]
  have e2 : (List.map bv a).length = a.length := by simp
  have e3 : (List.map bv a ++ List.map bv (List.drop a.length l[k])).length = 64 := by simp; omega
  rw [e2, e3]
  have g1 := rowsV_get0 h hk sp
  have : List.drop (0 + k * 64 + a.length) (rowsV l ++ sp) = List.drop a.length (List.drop (0 + k * 64) (rowsV l ++ sp)) := by rw [List.drop_drop]
  rw [this, ← List.take_append_drop 64 (List.drop (0 + k * 64) (rowsV l ++ sp)), g1, List.drop_append_of_le_length (by simp; omega), List.map_drop, List.drop_drop]
theorem range_row {w : World} {H : Heap} {g i ty : Nat} {l : List (List UInt8)} {sp : List Value} (hp : Hp w H) (hi : H[i]? = some (some g, Cl (rowsV l ++ sp) ty)) (h : Rows64 l) {k : Nat} (hk : k < l.length) (n : Nat) : w.rangeAt g (0 + k * 64 + 0 * 1) (((l[k]).take n).map bv) := by
  have g1 := rowsV_get0 h hk sp
  have e1 : 0 + k * 64 + 0 * 1 = 0 + k * 64 := by omega
  rw [e1]
  have hh := range_of (k := 0 + k * 64) (m := 64) hp hi
  rw [g1] at hh
  intro j v hj
  refine hh j v ?_
  rw [List.map_take, List.getElem?_take] at hj
  split at hj
  · exact hj
  · cases hj
theorem rangeAt_pre {w : World} {g : Nat} {xs ys : List Value} (h : w.rangeAt g 0 (xs ++ ys)) : w.rangeAt g 0 xs := fun j v hj => h j v (by rw [List.getElem?_append_left (List.getElem?_eq_some_iff.1 hj).1]; exact hj)
theorem rows_copy {a b : List (List UInt8)} (ha : Rows64 a) (hb : Rows64 b) (hl : a.length = b.length) (sp : List Value) : List.take 0 (rowsV b ++ sp) ++ rowsV a ++ List.drop (0 + (rowsV a).length) (rowsV b ++ sp) = rowsV a ++ sp := by
  have h1 := rowsV_len ha
  have h2 := rowsV_len hb
  rw [List.take_zero, List.nil_append, Nat.zero_add, List.drop_append_of_le_length (by rw [h1, h2, hl]; omega), List.drop_of_length_le (by rw [h1, h2, hl]; omega), List.nil_append]

/-- Where a disk lies: its struct, its two rows, their capacities and what lies behind them. -/
structure Dp where
  gd : Nat
  gn : Nat
  gl : Nat
  cn : Nat
  cl : Nat
  sn : List Value
  sl : List Value
structure DpOk (p : Dp) (D : Dk) : Prop where
  n1 : D.now.length ≤ p.cn
  n2 : (rowsV D.now ++ p.sn).length = p.cn * 64
  l1 : D.now.length ≤ p.cl
  l2 : (rowsV D.lasts ++ p.sl).length = p.cl * 64
  nm : p.cn ≤ maxLen
  lm : p.cl ≤ maxLen

def pad64 (s : List UInt8) : List UInt8 := s ++ List.replicate (64 - s.length) 0
theorem pad64_len {s : List UInt8} (h : s.length ≤ 64) : (pad64 s).length = 64 := by simp [pad64]; omega
theorem pad_cells (s : List UInt8) : List.take 0 (List.replicate 64 (Value.int .u8 0)) ++ (s.take s.length).map bv ++ List.drop (0 + s.length) (List.replicate 64 (Value.int .u8 0)) = (pad64 s).map bv := by
  rw [List.drop_replicate]
  simp only [List.take_zero, List.nil_append, Nat.zero_add, List.take_length, pad64, List.map_append, List.map_replicate]
  rfl

/-! ### what the operations do -/
def chkD (D : Dk) (i : Int) : Int := if D.down = true then 9 else if i < 0 ∨ (D.now.length : Int) ≤ i then 2 else 0
def stepD (D : Dk) : Dk := if D.armed = true then { D with down := D.left == 0, left := D.left - 1 } else D
def writeE (D : Dk) (i : Int) (s : List UInt8) : Int := if chkD D i ≠ 0 then chkD D i else if 64 < s.length then 8 else if (stepD D).down = true then 9 else 0
def writeD (D : Dk) (i : Int) (s : List UInt8) : Dk := if chkD D i ≠ 0 then D else if 64 < s.length then D else if (stepD D).down = true then stepD D else { stepD D with now := (stepD D).now.set i.toNat (pad64 s) }
def syncE (D : Dk) : Int := if D.down = true then 9 else if (stepD D).down = true then 9 else 0
def syncD (D : Dk) : Dk := if D.down = true then D else if (stepD D).down = true then stepD D else { stepD D with lasts := (stepD D).now }
def readE (D : Dk) (i : Int) : Int := chkD D i
def readS (D : Dk) (i : Int) : List UInt8 := if chkD D i ≠ 0 then [] else (D.now[i.toNat]?).getD []
def armD (D : Dk) (n : Int) : Dk := { D with armed := true, left := max n 0 }
def dirtyD (D : Dk) : List Nat := (List.range D.now.length).filter fun i => (D.now[i]?).getD [] != (D.lasts[i]?).getD []

def dirtyTo (D : Dk) (k : Nat) : List Nat := (List.range k).filter fun i => (D.now[i]?).getD [] != (D.lasts[i]?).getD []
theorem dirtyTo_all (D : Dk) : dirtyTo D D.now.length = dirtyD D := rfl
theorem dirtyTo_yes {D : Dk} {k : Nat} (hk : k < D.now.length) (hl : k < D.lasts.length) (h : ¬ D.now[k] = D.lasts[k]) : dirtyTo D (k + 1) = dirtyTo D k ++ [k] := by
  unfold dirtyTo; rw [List.range_succ, List.filter_append]; simp [hk, hl, h]
theorem dirtyTo_no {D : Dk} {k : Nat} (hk : k < D.now.length) (hl : k < D.lasts.length) (h : D.now[k] = D.lasts[k]) : dirtyTo D (k + 1) = dirtyTo D k := by
  unfold dirtyTo; rw [List.range_succ, List.filter_append]; simp [hk, hl, h]
theorem dirtyTo_le (D : Dk) (k : Nat) : (dirtyTo D k).length ≤ k := by
  unfold dirtyTo; exact Nat.le_trans (List.length_filter_le _ _) (by simp)
abbrev natV (i : Nat) : Value := .int .i64 (i : Int)

def zero64 : List UInt8 := List.replicate 64 0
def newD (n : Nat) : Dk := ⟨List.replicate n zero64, List.replicate n zero64, false, 0, false⟩
theorem newD_ok {n : Nat} (h1 : 1 ≤ n) (h2 : n ≤ 1024) : DkOk (newD n) :=
  ⟨by simp [newD], fun r hr => by rw [List.eq_of_mem_replicate hr]; rfl, fun r hr => by rw [List.eq_of_mem_replicate hr]; rfl, by simpa [newD] using h1, by simpa [newD] using h2, by simp [newD], by simp [newD], by simp [newD]⟩
theorem rowsV_zero (n : Nat) : (List.replicate n (List.replicate 64 (Value.int .u8 0))).flatten = rowsV (List.replicate n zero64) := by
  unfold rowsV
  rw [List.map_flatten, List.map_replicate]
  rfl

/-- How many bytes of the k-th sector that does not last are kept. -/
def keepN (ks : List Int) (k : Nat) : Nat := match ks[k]? with
  | some q => (q % 18446744073709551616 % 65).toNat
  | none => 0
theorem keepN_le (ks : List Int) (k : Nat) : keepN ks k ≤ 64 := by unfold keepN; split <;> omega
def mendL (D : Dk) (ks : List Int) : Nat → List (List UInt8)
  | 0 => D.lasts
  | k + 1 => match (dirtyD D)[k]? with
    | some i => (mendL D ks k).set i (((D.now[i]?).getD []).take (keepN ks k) ++ (((mendL D ks k)[i]?).getD []).drop (keepN ks k))
    | none => mendL D ks k
def mendD (D : Dk) (ks : List Int) : Dk := ⟨mendL D ks (dirtyD D).length, mendL D ks (dirtyD D).length, false, 0, false⟩
theorem dirty_lt {D : Dk} {k i : Nat} (h : (dirtyD D)[k]? = some i) : i < D.now.length := by
  have := List.mem_of_getElem? h
  unfold dirtyD at this
  simpa using (List.mem_filter.1 this).1
theorem mendL_len (D : Dk) (ks : List Int) : ∀ k, (mendL D ks k).length = D.lasts.length
  | 0 => rfl
  | k + 1 => by
    unfold mendL
    split
    · rw [List.length_set, mendL_len D ks k]
    · exact mendL_len D ks k
theorem mendL_rows {D : Dk} (h : DkOk D) (ks : List Int) : ∀ k, Rows64 (mendL D ks k)
  | 0 => h.lasts
  | k + 1 => by
    have ih := mendL_rows h ks k
    have hl := mendL_len D ks k
    unfold mendL
    split
    · rename_i i hi
      have hi' := dirty_lt hi
      have hi2 : i < (mendL D ks k).length := by rw [hl, h.len]; exact hi'
      have hk := keepN_le ks k
      have h1 : (D.now[i]).length = 64 := h.now _ (List.getElem_mem hi')
      have h2 : ((mendL D ks k)[i]).length = 64 := ih _ (List.getElem_mem hi2)
      refine rows64_set ih _ ?_
      simp [hi', hi2, h1, h2]
      omega
    · exact ih
theorem mendL_succ {D : Dk} (h : DkOk D) (ks : List Int) {k i : Nat} (hi : (dirtyD D)[k]? = some i) (h1 : i < D.now.length) (h2 : i < (mendL D ks k).length) :
    mendL D ks (k + 1) = (mendL D ks k).set i ((D.now[i]).take (keepN ks k) ++ ((mendL D ks k)[i]).drop ((D.now[i]).take (keepN ks k)).length) := by
  have hk := keepN_le ks k
  have h64 : (D.now[i]).length = 64 := h.now _ (List.getElem_mem h1)
  have e : ((D.now[i]).take (keepN ks k)).length = keepN ks k := by simp; omega
  rw [e]
  conv => lhs; unfold mendL
  simp [hi, h1, h2]
theorem mendD_ok {D : Dk} (h : DkOk D) (ks : List Int) : DkOk (mendD D ks) :=
  ⟨rfl, mendL_rows h ks _, mendL_rows h ks _, by simp only [mendD, mendL_len, h.len]; exact h.pos, by simp only [mendD, mendL_len, h.len]; exact h.most, by simp [mendD], by simp [mendD], by simp [mendD]⟩
abbrev intV (q : Int) : Value := .int .i64 q

theorem chk0 {D : Dk} {i : Int} (h : chkD D i = 0) : D.down = false ∧ 0 ≤ i ∧ i < D.now.length := by
  unfold chkD at h
  split at h
  · omega
  · split at h
    · omega
    · rename_i h1 h2
      exact ⟨by simpa using h1, by omega, by omega⟩
theorem stepD_now (D : Dk) : (stepD D).now = D.now := by unfold stepD; split <;> rfl
theorem stepD_lasts (D : Dk) : (stepD D).lasts = D.lasts := by unfold stepD; split <;> rfl
theorem stepD_armed (D : Dk) : (stepD D).armed = D.armed := by unfold stepD; split <;> rfl
theorem stepD_ok {D : Dk} (h : DkOk D) (hd : D.down = false) : DkOk (stepD D) := by
  have ha := h.arm hd
  have hh := h.hi
  have hl := h.lo
  refine ⟨by rw [stepD_now, stepD_lasts]; exact h.len, by rw [stepD_now]; exact h.now, by rw [stepD_lasts]; exact h.lasts, by rw [stepD_now]; exact h.pos, by rw [stepD_now]; exact h.most, ?_, ?_, ?_⟩
  · unfold stepD; split
    · have := ha ‹_›; simp only; omega
    · exact hl
  · unfold stepD; split
    · have := ha ‹_›; simp only; intro h0; simp at h0; omega
    · exact h.arm
  · unfold stepD; split
    · simp only; omega
    · exact hh
theorem writeD_ok {D : Dk} (h : DkOk D) (i : Int) (s : List UInt8) : DkOk (writeD D i s) := by
  unfold writeD
  split
  · exact h
  · rename_i hc
    have h0 := chk0 (by omega : chkD D i = 0)
    have hs := stepD_ok h h0.1
    split
    · exact h
    · split
      · exact hs
      · refine ⟨by simpa using hs.len, rows64_set hs.now _ (pad64_len (by omega)), hs.lasts, by simpa using hs.pos, by simpa using hs.most, hs.lo, hs.arm, hs.hi⟩
theorem syncD_ok {D : Dk} (h : DkOk D) : DkOk (syncD D) := by
  unfold syncD
  split
  · exact h
  · rename_i hd
    have hs := stepD_ok h (by simpa using hd)
    split
    · exact hs
    · exact ⟨rfl, hs.now, hs.now, hs.pos, hs.most, hs.lo, hs.arm, hs.hi⟩
theorem armD_ok {D : Dk} (h : DkOk D) (n : Int) (hn : n ≤ 9223372036854775807) : DkOk (armD D n) :=
  ⟨h.len, h.now, h.lasts, h.pos, h.most, by simp only [armD]; omega, by intro _ _; simp only [armD]; omega, by simp only [armD]; omega⟩
end Go.Proofs.Ytcpfhnfpokijaaa

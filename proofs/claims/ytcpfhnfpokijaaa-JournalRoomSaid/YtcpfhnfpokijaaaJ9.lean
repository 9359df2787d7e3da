/- Walks printed by gen.py out of our own specifications: what the functions named below do. -/
import Derived.Test.YtcpfhnfpokijaaaJ8
set_option linter.unusedSimpArgs false
set_option linter.unusedVariables false
namespace Go.Proofs.Ytcpfhnfpokijaaa
open Go.RowKit


def stampS (g q : Int) : List UInt8 := (stampN g q).map fun n => UInt8.ofNat n.toNat
theorem stampS_len (g q : Int) : (stampS g q).length = 6 := rfl
theorem packS_cat (g q f : Int) (d : List UInt8) (h : d.length ≤ 50) (hq : ¬ q = 0) :
    packS g q f d = stampS g q ++ [UInt8.ofNat f.toNat, UInt8.ofNat (d.length : Int).toNat] ++ d ++ List.replicate (58 - (stampS g q ++ [UInt8.ofNat f.toNat, UInt8.ofNat (d.length : Int).toNat] ++ d).length) 0 ++ stampS g q := by
  have hl : (stampS g q ++ [UInt8.ofNat f.toNat, UInt8.ofNat (d.length : Int).toNat] ++ d).length = 8 + d.length := by simp [stampS_len]; omega
  have hd : (d.map (fun b => (b.toNat : Int))).map (fun n => UInt8.ofNat n.toNat) = d := by
    rw [List.map_map]
    conv => rhs; rw [← List.map_id d]
    apply List.map_congr_left
    intro b _
    simp
  rw [hl, show 58 - (8 + d.length) = 50 - d.length by omega]
  unfold packS packN
  rw [if_neg (by omega), if_neg hq]
  simp only [List.map_append, hd, List.map_replicate, List.append_assoc, List.map_cons, List.map_nil, List.cons_append, List.nil_append]
  rfl


theorem ofNat_byte {n : Int} (h0 : 0 ≤ n) (h1 : n < 256) : ((UInt8.ofNat n.toNat).toNat : Int) = n := by
  rw [UInt8.toNat_ofNat']
  rw [Nat.mod_eq_of_lt (by omega)]
  omega
theorem unpack_pack (g q f : Int) (d : List UInt8) (hg0 : 0 ≤ g) (hg : g < 65536) (hq0 : 0 ≤ q) (hq : q < 4294967296) (hf0 : 0 ≤ f) (hf1 : f < 256) (hd : d.length ≤ 50) (hqn : ¬ q = 0) : unpackL (packS g q f d) = some (g, q, f, d) := by
  have e : packS g q f d = UInt8.ofNat (g / 256).toNat :: UInt8.ofNat (g % 256).toNat :: UInt8.ofNat (q / 16777216).toNat :: UInt8.ofNat (q / 65536 % 256).toNat :: UInt8.ofNat (q / 256 % 256).toNat :: UInt8.ofNat (q % 256).toNat
      :: UInt8.ofNat f.toNat :: UInt8.ofNat (d.length : Int).toNat :: (d ++ List.replicate (50 - d.length) 0 ++ stampS g q) := by
    rw [packS_cat g q f d hd hqn]
    have hl : (stampS g q ++ [UInt8.ofNat f.toNat, UInt8.ofNat (d.length : Int).toNat] ++ d).length = 8 + d.length := by simp [stampS_len]; omega
    rw [hl, show 58 - (8 + d.length) = 50 - d.length by omega]
    simp [stampS, stampN]
  have h7 : (UInt8.ofNat (d.length : Int).toNat).toNat = d.length := by
    rw [UInt8.toNat_ofNat', Nat.mod_eq_of_lt (by omega)]; omega
  have htk : (d ++ List.replicate (50 - d.length) 0 ++ stampS g q).take (UInt8.ofNat (d.length : Int).toNat).toNat = d := by
    rw [h7, List.append_assoc, List.take_left' rfl]
  have hG : ((UInt8.ofNat (g / 256).toNat).toNat : Int) * 256 + ((UInt8.ofNat (g % 256).toNat).toNat : Int) = g := by
    rw [ofNat_byte (by omega) (by omega), ofNat_byte (by omega) (by omega)]; omega
  have hQ : ((((UInt8.ofNat (q / 16777216).toNat).toNat : Int) * 256 + ((UInt8.ofNat (q / 65536 % 256).toNat).toNat : Int)) * 256 + ((UInt8.ofNat (q / 256 % 256).toNat).toNat : Int)) * 256 + ((UInt8.ofNat (q % 256).toNat).toNat : Int) = q := by
    rw [ofNat_byte (by omega) (by omega), ofNat_byte (by omega) (by omega), ofNat_byte (by omega) (by omega), ofNat_byte (by omega) (by omega)]; omega
  have hFl : ((UInt8.ofNat f.toNat).toNat : Int) = f := ofNat_byte hf0 hf1
  have hlen : (d ++ List.replicate (50 - d.length) 0 ++ stampS g q).length = 56 := by simp [stampS_len]; omega
  have e2 := e
  rw [e]
  unfold unpackL unpackC
  simp only [hG, hQ, hFl, htk]
  rw [if_pos ⟨hlen, by omega, hqn, e⟩]
theorem unpack_isSome (g q f : Int) (d : List UInt8) (hg0 : 0 ≤ g) (hg : g < 65536) (hq0 : 0 ≤ q) (hq : q < 4294967296) (hf0 : 0 ≤ f) (hf1 : f < 256) : (unpackL (packS g q f d)).isSome = (packE q d == 0) := by
  by_cases hd : 50 < d.length
  · have e : packS g q f d = [] := by simp [packS, hd]
    rw [e, unpackL_len [] (by simp)]
    simp [packE, hd]
  · by_cases hq1 : q = 0
    · have e : packS g q f d = [] := by simp [packS, hq1]
      rw [e, unpackL_len [] (by simp)]
      simp [packE, hd, hq1]
    · rw [unpack_pack g q f d hg0 hg hq0 hq hf0 hf1 (by omega) hq1]
      simp [packE, hd, hq1]
theorem unpack_some (g q f : Int) (d : List UInt8) (hg0 : 0 ≤ g) (hg : g < 65536) (hq0 : 0 ≤ q) (hq : q < 4294967296) (hf0 : 0 ≤ f) (hf1 : f < 256) (h : (unpackL (packS g q f d)).isSome = true) : unpackL (packS g q f d) = some (g, q, f, d) := by
  rw [unpack_isSome g q f d hg0 hg hq0 hq hf0 hf1] at h
  by_cases hd : 50 < d.length
  · simp [packE, hd] at h
  · by_cases hq1 : q = 0
    · simp [packE, hd, hq1] at h
    · exact unpack_pack g q f d hg0 hg hq0 hq hf0 hf1 (by omega) hq1


/-! ### plain: a journal on a disk that was empty -/
abbrev Rc := Nat × List UInt8
structure CI (n : Nat) (D : Dk) (cs : List Rc) : Prop where
  calm : Calm D
  len : D.now.length = n
  fit : cs.length ≤ n
  at_ : ∀ (i f : Nat) (d : List UInt8), cs[i]? = some (f, d) → D.now[(1 + i) % n]? = some (packS 1 ((1 + i : Nat) : Int) (f : Int) d)
  blank : ∀ i, cs.length ≤ i → i < n → D.now[(1 + i) % n]? = some zero64
  wf : ∀ c ∈ cs, c.1 < 4 ∧ c.2.length ≤ 50
theorem ring_e {n k : Nat} (hk : k < n) : (1 + k) % n = if k + 1 = n then 0 else k + 1 := by
  split
  · rename_i h; rw [show 1 + k = n by omega, Nat.mod_self]
  · rw [Nat.mod_eq_of_lt (by omega)]; omega
theorem ring_ne {n i j : Nat} (hi : i < n) (hj : j < n) (h : i ≠ j) : (1 + i) % n ≠ (1 + j) % n := by
  rw [ring_e hi, ring_e hj]; split <;> split <;> omega
theorem ring_lt {n i : Nat} (hi : i < n) : (1 + i) % n < n := Nat.mod_lt _ (by omega)
theorem newD_calm {n : Nat} (h1 : 1 ≤ n) (h2 : n ≤ 1024) : Calm (newD n) := ⟨newD_ok h1 h2, rfl, rfl⟩
theorem CI.start {n : Nat} (h1 : 1 ≤ n) (h2 : n ≤ 1024) : CI n (newD n) [] :=
  ⟨newD_calm h1 h2, by simp [newD], by simp, fun i f d h => by simp at h, fun i _ hi => by
    have := ring_lt hi
    simp [newD, this], fun c h => by cases h⟩
theorem packS_64 {g q f : Int} {d : List UInt8} (hd : d.length ≤ 50) (hq : ¬ q = 0) : (packS g q f d).length = 64 := by
  unfold packS
  rw [if_neg (by omega), if_neg hq, List.length_map, packN_length g q f d hd]
theorem CI.write {n : Nat} {D : Dk} {cs : List Rc} {f : Nat} {d : List UInt8} (h : CI n D cs) (hlt : cs.length < n) (hf : f < 4) (hd : d.length ≤ 50) :
    CI n (writeD D (((1 + cs.length) % n : Nat) : Int) (packS 1 ((1 + cs.length : Nat) : Int) (f : Int) d)) (cs ++ [(f, d)]) := by
  have hr := ring_lt hlt
  have h64 := packS_64 (g := 1) (q := ((1 + cs.length : Nat) : Int)) (f := (f : Int)) hd (by omega)
  obtain ⟨_, e, hc⟩ := h.calm.write (i := (1 + cs.length) % n) (by rw [h.len]; exact hr) (s := packS 1 ((1 + cs.length : Nat) : Int) (f : Int) d) (by omega)
  have hpad : pad64 (packS 1 ((1 + cs.length : Nat) : Int) (f : Int) d) = packS 1 ((1 + cs.length : Nat) : Int) (f : Int) d := by unfold pad64; rw [h64, Nat.sub_self, List.replicate_zero, List.append_nil]
  rw [hpad] at e
  refine ⟨hc, by rw [e]; simp [h.len], by simp; omega, fun i f' d' hi => ?_, fun i h1 h2 => ?_, fun c hm => ?_⟩
  · rw [e]
    by_cases hil : i < cs.length
    · rw [List.getElem?_append_left hil] at hi
      simp only
      rw [List.getElem?_set_ne (ring_ne hlt (by omega) (by omega))]
      exact h.at_ i f' d' hi
    · have hi2 : i = cs.length := by
        have := (List.getElem?_eq_some_iff.1 hi).1
        simp at this; omega
      subst hi2
      simp at hi
      obtain ⟨rfl, rfl⟩ := hi
      simp only
      rw [List.getElem?_set_self (by rw [h.len]; exact hr)]
  · rw [e]
    simp at h1
    simp only
    rw [List.getElem?_set_ne (ring_ne hlt h2 (by omega))]
    exact h.blank i (by omega) h2
  · rcases List.mem_append.1 hm with hm | hm
    · exact h.wf c hm
    · simp at hm; subst hm; exact ⟨hf, hd⟩
def recC (s : List UInt8) : List Rc := (List.range (cellsN s)).map fun k => (flagN s k, chunk s k)
def cellsA (all : List (List UInt8)) : List Rc := all.flatMap recC
theorem recC_len (s : List UInt8) : (recC s).length = cellsN s := by simp [recC]
theorem recC_take (s : List UInt8) {k : Nat} (hk : k < cellsN s) : (recC s).take (k + 1) = (recC s).take k ++ [(flagN s k, chunk s k)] := by
  rw [List.take_add_one]
  congr 1
  simp [recC, hk]
theorem recC_drop (s : List UInt8) {k : Nat} (hk : k < cellsN s) : (recC s).drop k = (flagN s k, chunk s k) :: (recC s).drop (k + 1) := by
  rw [List.drop_eq_getElem_cons (by rw [recC_len]; exact hk)]
  simp [recC]
def jst (n m : Nat) : Jn := ⟨0, n, 1, 0, 1, 1 + m, 1, false⟩
theorem CI.wr {n : Nat} {D : Dk} {cs : List Rc} (h : CI n D cs) (s : List UInt8) (hfit : cs.length + cellsN s ≤ n) : ∀ k, k ≤ cellsN s → CI n (wrN D (jst n cs.length) s k) (cs ++ (recC s).take k)
  | 0, _ => by simpa [wrN] using h
  | k + 1, hk => by
    have ih := CI.wr h s hfit k (by omega)
    have hl : (cs ++ (recC s).take k).length = cs.length + k := by simp [recC_len]; omega
    have h2 := ih.write (f := flagN s k) (d := chunk s k) (by rw [hl]; omega) (flagN_lt s k) (by rw [chunk_len]; omega)
    rw [hl, List.append_assoc, ← recC_take s (by omega)] at h2
    have e : wrN D (jst n cs.length) s (k + 1) = writeD (wrN D (jst n cs.length) s k) (((1 + (cs.length + k)) % n : Nat) : Int) (packS 1 ((1 + (cs.length + k) : Nat) : Int) (flagN s k : Int) (chunk s k)) := by
      rw [wrN]
      simp only [cellS]
      simp only [jst, Nat.zero_add, Nat.add_assoc]
    rw [e]
    exact h2
theorem cellAt_calm {D : Dk} (h : Calm D) {k : Nat} {r : List UInt8} (hr : D.now[k]? = some r) : cellAt D (k : Int) = unpackL r := by
  have hk := (List.getElem?_eq_some_iff.1 hr).1
  have hc : chkD D (k : Int) = 0 := by unfold chkD; rw [if_neg (by simp [h.down]), if_neg (by omega)]
  unfold cellAt readE readS
  rw [if_pos hc, if_neg (by simp [hc])]
  simp [hr]
theorem unpackL_zero : unpackL zero64 = none := by decide +kernel
def cx (i : Nat) (c : Rc) : Cx := (1, ((1 + i : Nat) : Int), (c.1 : Int), c.2)
def cxs : Nat → List Rc → List Cx
  | _, [] => []
  | i, c :: r => cx i c :: cxs (i + 1) r
theorem CI.cell {n : Nat} {D : Dk} {cs : List Rc} (h : CI n D cs) (hn : n ≤ 1024) {i : Nat} (hi : i < cs.length) : cellAt D (((1 + i) % n : Nat) : Int) = some (cx i cs[i]) := by
  have hw := h.wf _ (List.getElem_mem hi)
  have hg : cs[i]? = some ((cs[i]).1, (cs[i]).2) := by rw [List.getElem?_eq_getElem hi]
  have hf := h.fit
  rw [cellAt_calm h.calm (h.at_ i _ _ hg), unpack_pack _ _ _ _ (by omega) (by omega) (by omega) (by omega) (by omega) (by omega) hw.2 (by omega)]
  rfl
theorem CI.none {n : Nat} {D : Dk} {cs : List Rc} (h : CI n D cs) {i : Nat} (h1 : cs.length ≤ i) (h2 : i < n) : cellAt D (((1 + i) % n : Nat) : Int) = none := by
  rw [cellAt_calm h.calm (h.blank i h1 h2), unpackL_zero]
theorem CI.run {n : Nat} {D : Dk} {cs : List Rc} (h : CI n D cs) (hn : n ≤ 1024) {J : Jn} (hb : J.base = 0) (hs : J.size = n) (hh : J.head = 1) : ∀ (r i : Nat) (g : Int), i + r = n → i ≤ cs.length → g ≤ 1 → runL D J r i g = cxs i (cs.drop i)
  | 0, i, g, h1, h2, _ => by
    have hf := h.fit
    rw [List.drop_of_length_le (by omega)]
    rfl
  | r + 1, i, g, h1, h2, hg => by
    rw [runL, hb, hs, hh, Nat.zero_add]
    by_cases hi : i < cs.length
    · rw [h.cell hn hi]
      simp only
      rw [if_pos ⟨rfl, hg⟩, CI.run h hn hb hs hh r (i + 1) _ (by omega) (by omega) (by simp [cx]), List.drop_eq_getElem_cons hi]
      rfl
    · rw [h.none (by omega) (by omega), List.drop_of_length_le (by omega)]
      rfl
theorem ring_all {n k : Nat} (hk : k < n) : ∃ i, i < n ∧ (1 + i) % n = k := by
  by_cases h0 : k = 0
  · exact ⟨n - 1, by omega, by rw [ring_e (by omega), if_pos (by omega), h0]⟩
  · exact ⟨k - 1, by omega, by rw [ring_e (by omega), if_neg (by omega)]; omega⟩
theorem CI.newest {n : Nat} {D : Dk} {cs : List Rc} (h : CI n D cs) (hn : n ≤ 1024) : ∀ k, k ≤ n → newestD D 0 k ≤ (if cs = [] then 0 else 1)
  | 0, _ => by rw [newestD]; split <;> omega
  | k + 1, hk => by
    have ih := CI.newest h hn k (by omega)
    obtain ⟨i, hi, e⟩ := ring_all (show k < n by omega)
    rw [newestD]
    have e2 : ((0 : Nat) : Int) + (k : Int) = (((1 + i) % n : Nat) : Int) := by rw [e]; omega
    rw [e2]
    by_cases hc : i < cs.length
    · have hne : cs ≠ [] := fun e => by rw [e] at hc; cases hc
      rw [h.cell hn hc, if_pos (show (some (cx i cs[i])).isSome = true from rfl), if_neg hne]
      rw [if_neg hne] at ih
      simp only [cx, cG]
      omega
    · rw [h.none (by omega) hi, if_neg (by simp)]
      exact ih
theorem bits_b : ∀ f : Nat, f < 4 → (bits .and .u8 (f : Int) 1 != 0) = decide (f % 2 = 1) ∧ (bits .and .u8 (f : Int) 2 != 0) = decide (2 ≤ f) := by decide +kernel
theorem flag_odd (s : List UInt8) (k : Nat) : (flagN s k % 2 = 1) ↔ k = 0 := by unfold flagN; split <;> split <;> omega
theorem flag_two (s : List UInt8) (k : Nat) : (2 ≤ flagN s k) ↔ k + 1 = cellsN s := by unfold flagN; split <;> split <;> omega
theorem take_chunk (s : List UInt8) (k : Nat) : s.take (50 * k) ++ chunk s k = s.take (50 * (k + 1)) := by
  unfold chunk
  rw [show 50 * (k + 1) = 50 * k + 50 by omega, List.take_add]
theorem cellsN_cover (s : List UInt8) : s.length ≤ 50 * cellsN s := by unfold cellsN; omega
theorem cellsN_82 {s : List UInt8} (h : s.length ≤ 4096) : cellsN s ≤ 82 := by unfold cellsN; omega
def stk (l : List (List UInt8)) (s : List UInt8) (g : Int) (nx k : Nat) : Fs := ⟨l, s.take (50 * k), k, if k = 0 then g else 1, nx⟩
theorem find_cells {l : List (List UInt8)} {s : List UInt8} (hs : s.length ≤ 4096) (g : Int) (nx i : Nat) (rest : List Rc) : ∀ m k, k + m + 1 = cellsN s →
    findF (cxs (i + k) ((recC s).drop k ++ rest)) (stk l s g nx k) = findF (cxs (i + cellsN s) rest) ⟨l ++ [s], [], 0, 1, 1 + i + cellsN s⟩ := fun m => by
  induction m with
  | zero =>
    intro k hk
    have hb := bits_b _ (flagN_lt s k)
    have h82 := cellsN_82 hs
    rw [recC_drop s (by omega), List.drop_of_length_le (by rw [recC_len]; omega)]
    simp only [List.cons_append, List.nil_append, cxs, findF]
    have hbad : fbad (stk l s g nx k) (cx (i + k) (flagN s k, chunk s k)) = false := by
      unfold fbad stk cx
      simp only [hb.1]
      have h4 := flagN_lt s k
      have ho := flag_odd s k
      simp only [Bool.or_eq_false_iff]
      refine ⟨⟨⟨decide_eq_false (by omega), ?_⟩, ?_⟩, ?_⟩
      · rw [bne_eq_false_iff_eq, Bool.eq_iff_iff]; simp only [decide_eq_true_eq, beq_iff_eq]; omega
      · rw [beq_eq_false_iff_ne]; omega
      · by_cases h0 : k = 0
        · simp [ho.2 h0]
        · simp [h0]
    rw [hbad]
    simp only [Bool.false_eq_true, if_false]
    have hnx : fnext (stk l s g nx k) (cx (i + k) (flagN s k, chunk s k)) = ⟨l ++ [s], [], 0, 1, 1 + i + cellsN s⟩ := by
      unfold fnext
      have h2 : bits .and .u8 ((flagN s k : Nat) : Int) 2 ≠ 0 := by
        have := hb.2
        rw [decide_eq_true ((flag_two s k).2 (by omega))] at this
        exact bne_iff_ne.1 this
      rw [if_pos (show bits .and .u8 (cx (i + k) (flagN s k, chunk s k)).2.2.1 2 ≠ 0 from h2)]
      simp only [cx, stk, take_chunk, Fs.mk.injEq, true_and]
      refine ⟨?_, ?_⟩
      · rw [List.take_of_length_le (by have := cellsN_cover s; rw [show k + 1 = cellsN s by omega]; exact this)]
      · omega
    rw [hnx, show i + k + 1 = i + cellsN s by omega]
  | succ m ih =>
    intro k hk
    have hb := bits_b _ (flagN_lt s k)
    have h82 := cellsN_82 hs
    rw [recC_drop s (by omega)]
    simp only [List.cons_append, cxs, findF]
    have hbad : fbad (stk l s g nx k) (cx (i + k) (flagN s k, chunk s k)) = false := by
      unfold fbad stk cx
      simp only [hb.1]
      have h4 := flagN_lt s k
      have ho := flag_odd s k
      simp only [Bool.or_eq_false_iff]
      refine ⟨⟨⟨decide_eq_false (by omega), ?_⟩, ?_⟩, ?_⟩
      · rw [bne_eq_false_iff_eq, Bool.eq_iff_iff]; simp only [decide_eq_true_eq, beq_iff_eq]; omega
      · rw [beq_eq_false_iff_ne]; omega
      · by_cases h0 : k = 0
        · simp [ho.2 h0]
        · simp [h0]
    rw [hbad]
    simp only [Bool.false_eq_true, if_false]
    have hnx : fnext (stk l s g nx k) (cx (i + k) (flagN s k, chunk s k)) = stk l s g nx (k + 1) := by
      unfold fnext
      have h2 : ¬ bits .and .u8 ((flagN s k : Nat) : Int) 2 ≠ 0 := by
        have := hb.2
        rw [decide_eq_false (fun h => by have := (flag_two s k).1 h; omega)] at this
        simpa using this
      rw [if_neg (show ¬ bits .and .u8 (cx (i + k) (flagN s k, chunk s k)).2.2.1 2 ≠ 0 from h2)]
      simp only [cx, stk, take_chunk]
      rw [if_neg (by omega)]
    rw [hnx, show i + k + 1 = i + (k + 1) by omega]
    exact ih (k + 1) (by omega)
theorem find_all : ∀ (all : List (List UInt8)) (l : List (List UInt8)) (g : Int) (i : Nat), (∀ s ∈ all, s.length ≤ 4096) →
    ∃ g', findF (cxs i (cellsA all)) ⟨l, [], 0, g, 1 + i⟩ = ⟨l ++ all, [], 0, g', 1 + i + (cellsA all).length⟩
  | [], l, g, i, _ => ⟨g, by simp [cellsA, cxs, findF]⟩
  | s :: all, l, g, i, h => by
    have hs := h s (by simp)
    have hp := cellsN_pos s
    have e := find_cells (l := l) hs g (1 + i) i (cellsA all) (cellsN s - 1) 0 (by omega)
    obtain ⟨g', hg⟩ := find_all all (l ++ [s]) 1 (i + cellsN s) (fun x hx => h x (by simp [hx]))
    refine ⟨g', ?_⟩
    have e0 : stk l s g (1 + i) 0 = ⟨l, [], 0, g, 1 + i⟩ := by simp [stk]
    rw [e0, List.drop_zero, Nat.add_zero] at e
    have e1 : cellsA (s :: all) = recC s ++ cellsA all := by simp [cellsA]
    rw [e1, e, Nat.add_assoc 1 i, hg]
    simp only [List.append_assoc, List.cons_append, List.nil_append, List.length_append, recC_len, Fs.mk.injEq, true_and]
    omega
/-- Opened anew: all records are there. -/
theorem CI.reopen {n : Nat} {D : Dk} {all : List (List UInt8)} (h : CI n D (cellsA all)) (hn : n ≤ 1024) (ha : ∀ s ∈ all, s.length ≤ 4096) : (openF D 0 n 1 0).l = all ∧ (openF D 0 n 1 0).next = 1 + (cellsA all).length := by
  obtain ⟨g', e⟩ := find_all all [] 0 0 ha
  have hr : openF D 0 n 1 0 = ⟨[] ++ all, [], 0, g', 1 + 0 + (cellsA all).length⟩ := by
    unfold openF findJ findI
    rw [← e]
    show findF (runL D (open1 D 0 n 1 0) n 0 0) _ = _
    rw [CI.run h hn (J := open1 D 0 n 1 0) rfl rfl rfl n 0 _ (by omega) (by omega) (by simp [open1])]
    simp [open1]
  rw [hr]
  exact ⟨by simp, by simp⟩
theorem open_new {n : Nat} (h1 : 1 ≤ n) (h2 : n ≤ 1024) : openJ (newD n) 0 n 1 0 = jst n 0 ∧ (openF (newD n) 0 n 1 0).l = [] ∧ newestD (newD n) 0 n = 0 := by
  have hc := CI.start h1 h2
  have hc2 : CI n (newD n) (cellsA []) := hc
  obtain ⟨e1, e2⟩ := hc2.reopen h2 (by simp)
  have hg : newestD (newD n) 0 n = 0 := by
    have h3 := hc.newest h2 n (Nat.le_refl _)
    have h4 := newestD_bound (newD n) 0 n
    rw [if_pos rfl] at h3
    omega
  refine ⟨?_, e1, hg⟩
  unfold openJ
  rw [e2]
  simp only [open1, hg, jst, cellsA, List.flatMap_nil, List.length_nil]
  rfl
theorem CI.gen {n : Nat} {D : Dk} {cs : List Rc} (h : CI n D cs) (hn : n ≤ 1024) : newestD D 0 n < 65535 := by
  have := h.newest hn n (Nat.le_refl _)
  split at this <;> omega
theorem jst_ok {n m : Nat} (h1 : 1 ≤ n) (h2 : n ≤ 1024) (hm : m ≤ n) : JnOk (jst n m) := ⟨by simp [jst], h2, h1, by simp [jst], by simp [jst]; omega, by simp [jst], by simp [jst], by simp [jst], by simp [jst], by simp [jst]; omega⟩
/-- A record finds room, if its cells do. -/
theorem CI.app {n : Nat} {D : Dk} {all : List (List UInt8)} (h : CI n D (cellsA all)) (s : List UInt8) (hs : s.length ≤ 4096) :
    (appE (jst n (cellsA all).length) s = 0 ∧ cellsN s + (cellsA all).length ≤ n ∧ appJ (jst n (cellsA all).length) s = jst n (cellsA (all ++ [s])).length ∧ CI n (appD D (jst n (cellsA all).length) s) (cellsA (all ++ [s]))) ∨
    (appE (jst n (cellsA all).length) s = 4 ∧ n < cellsN s + (cellsA all).length ∧ appJ (jst n (cellsA all).length) s = jst n (cellsA all).length ∧ appD D (jst n (cellsA all).length) s = D) := by
  have hf := h.fit
  have e1 : cellsA (all ++ [s]) = cellsA all ++ recC s := by simp [cellsA]
  have hjs : (jst n (cellsA all).length).size = n := rfl
  have hjn : (jst n (cellsA all).length).next - (jst n (cellsA all).length).head = (cellsA all).length := by simp [jst]
  by_cases hc : cellsN s + (cellsA all).length ≤ n
  · left
    have e0 : appE (jst n (cellsA all).length) s = 0 := by unfold appE; rw [if_neg (by omega), hjs, hjn, if_neg (by omega)]
    refine ⟨e0, hc, ?_, ?_⟩
    · unfold appJ
      rw [if_pos e0, e1, List.length_append, recC_len]
      simp [jst, Nat.add_assoc]
    · unfold appD
      rw [if_pos e0, e1]
      have := h.wr s (by omega) (cellsN s) (Nat.le_refl _)
      rwa [List.take_of_length_le (by rw [recC_len]; exact Nat.le_refl _)] at this
  · right
    have e0 : appE (jst n (cellsA all).length) s = 4 := by unfold appE; rw [if_neg (by omega), hjs, hjn, if_pos (by omega)]
    exact ⟨e0, by omega, by unfold appJ; rw [if_neg (by omega)], by unfold appD; rw [if_neg (by omega)]⟩
theorem CI.long {n : Nat} {D : Dk} {all : List (List UInt8)} (s : List UInt8) (hs : 4096 < s.length) : appE (jst n (cellsA all).length) s = 8 ∧ appJ (jst n (cellsA all).length) s = jst n (cellsA all).length ∧ appD D (jst n (cellsA all).length) s = D := by
  have e0 : appE (jst n (cellsA all).length) s = 8 := by unfold appE; rw [if_pos hs]
  exact ⟨e0, by unfold appJ; rw [if_neg (by omega)], by unfold appD; rw [if_neg (by omega)]⟩

end Go.Proofs.Ytcpfhnfpokijaaa

/- Plain: a sector that was torn anywhere holds the one cell, the other one, or none. -/
import Derived.Test.YtikdpkhcegjmfaaW10
namespace Go.Proofs.Ytikdpkhcegjmfaa

theorem unpackL_inv {x : List UInt8} {g q f : Int} {d : List UInt8} (h : unpackL x = some (g, q, f, d)) : x.length = 64 ∧ x = packS g q f d ∧ d.length ≤ 50 ∧ q ≠ 0 := by
  unfold unpackL unpackC at h
  split at h
  · rename_i b0 b1 b2 b3 b4 b5 b6 b7 r
    simp only at h
    split at h
    · rename_i hc
      obtain ⟨h1, h2, h3, h4⟩ := hc
      simp only [Option.some.injEq, Prod.mk.injEq] at h
      obtain ⟨rfl, rfl, rfl, rfl⟩ := h
      exact ⟨by simp [h1], h4.symm, by rw [List.length_take]; omega, h3⟩
    · cases h
  · cases h
theorem packS_form {g q f : Int} {d : List UInt8} (hd : d.length ≤ 50) (hq : ¬ q = 0) : (packS g q f d).length = 64 ∧ (packS g q f d).take 6 = stampS g q ∧ (packS g q f d).drop 58 = stampS g q := by
  rw [packS_cat g q f d hd hq]
  have hl : (stampS g q ++ [UInt8.ofNat f.toNat, UInt8.ofNat (d.length : Int).toNat] ++ d).length = 8 + d.length := by simp [stampS_len]; omega
  have hA : (stampS g q ++ [UInt8.ofNat f.toNat, UInt8.ofNat (d.length : Int).toNat] ++ d ++ List.replicate (58 - (stampS g q ++ [UInt8.ofNat f.toNat, UInt8.ofNat (d.length : Int).toNat] ++ d).length) 0).length = 58 := by
    rw [List.length_append, hl, List.length_replicate]; omega
  refine ⟨by rw [List.length_append, hA]; rfl, ?_, ?_⟩
  · simp only [List.append_assoc]
    exact List.take_left' (stampS_len g q)
  · exact List.drop_left' hA
theorem stampS_inj {g q g' q' : Int} (hg0 : 0 ≤ g) (hg : g < 65536) (hq0 : 0 ≤ q) (hq : q < 4294967296) (hg0' : 0 ≤ g') (hg' : g' < 65536) (hq0' : 0 ≤ q') (hq' : q' < 4294967296) (h : stampS g q = stampS g' q') : g = g' ∧ q = q' := by
  simp only [stampS, stampN, List.map_cons, List.map_nil, List.cons.injEq, and_true] at h
  obtain ⟨h1, h2, h3, h4, h5, h6⟩ := h
  have key : ∀ {a b : Int}, 0 ≤ a → a < 256 → 0 ≤ b → b < 256 → UInt8.ofNat a.toNat = UInt8.ofNat b.toNat → a = b := fun {a b} a0 a1 b0 b1 e => by
    have := congrArg (fun u : UInt8 => (u.toNat : Int)) e
    simp only [ofNat_byte a0 a1, ofNat_byte b0 b1] at this
    exact this
  have e1 := key (by omega) (by omega) (by omega) (by omega) h1
  have e2 := key (by omega) (by omega) (by omega) (by omega) h2
  have e3 := key (by omega) (by omega) (by omega) (by omega) h3
  have e4 := key (by omega) (by omega) (by omega) (by omega) h4
  have e5 := key (by omega) (by omega) (by omega) (by omega) h5
  have e6 := key (by omega) (by omega) (by omega) (by omega) h6
  omega
/-- Whole, or not at all. -/
theorem torn_list {s o x S O : List UInt8} {n : Nat} (hs : s.length = 64) (hs1 : s.take 6 = S) (hs2 : s.drop 58 = S) (ho1 : o.take 6 = O) (ho2 : o.drop 58 = O) (hne : S ≠ O) (hn : n ≤ 64) (hx : x = s.take n ++ o.drop n) (hx2 : x.take 6 = x.drop 58) : x = s ∨ x = o := by
  have lt : (s.take n).length = n := by simp; omega
  rcases Nat.lt_or_ge 58 n with h | h
  · left
    have a1 : x.take 6 = S := by rw [hx, List.take_append_of_le_length (by omega), List.take_take, Nat.min_eq_left (by omega), hs1]
    have a2 : x.drop 58 = (s.drop 58).take (n - 58) ++ o.drop n := by
      rw [hx, List.drop_append_of_le_length (by omega), List.drop_take]
    rw [a1, a2, hs2] at hx2
    have a3 : o.drop n = S.drop (n - 58) := by
      have := congrArg (List.drop (n - 58)) hx2
      rw [List.drop_left' (by rw [List.length_take, ← hs2, List.length_drop]; omega)] at this
      exact this.symm
    rw [hx, a3, ← hs2, List.drop_drop, show 58 + (n - 58) = n by omega, List.take_append_drop]
  · have b2 : x.drop 58 = O := by
      rw [hx, List.drop_append, lt, List.drop_of_length_le (by omega), List.nil_append, List.drop_drop, show n + (58 - n) = 58 by omega, ho2]
    rcases Nat.lt_or_ge n 6 with h6 | h6
    · right
      have b1 : x.take 6 = s.take n ++ (o.drop n).take (6 - n) := by
        rw [hx, List.take_append, lt, List.take_take, Nat.min_eq_right (by omega)]
      rw [b1, b2, ← ho1] at hx2
      have b3 : s.take n = o.take n := by
        have := congrArg (List.take n) hx2
        rw [List.take_left' lt, List.take_take, Nat.min_eq_left (by omega)] at this
        exact this
      rw [hx, b3, List.take_append_drop]
    · exfalso
      have b1 : x.take 6 = S := by rw [hx, List.take_append_of_le_length (by omega), List.take_take, Nat.min_eq_left (by omega), hs1]
      rw [b1, b2] at hx2
      exact hne hx2

theorem unpackL_zero : unpackL zero64 = none := by decide +kernel
theorem zero64_form : zero64.length = 64 ∧ zero64.take 6 = List.replicate 6 0 ∧ zero64.drop 58 = List.replicate 6 0 := by decide
theorem stampS_zero {g q : Int} (hq0 : 0 ≤ q) (hq : q < 4294967296) (h : stampS g q = List.replicate 6 0) : q = 0 := by
  simp only [stampS, stampN, List.map_cons, List.map_nil, List.replicate, List.cons.injEq, and_true] at h
  obtain ⟨h1, h2, h3, h4, h5, h6⟩ := h
  have key : ∀ {a : Int}, 0 ≤ a → a < 256 → UInt8.ofNat a.toNat = 0 → a = 0 := fun {a} a0 a1 e => by
    have := congrArg (fun u : UInt8 => (u.toNat : Int)) e
    simp only [ofNat_byte a0 a1] at this
    simpa using this
  have e3 := key (by omega) (by omega) h3
  have e4 := key (by omega) (by omega) h4
  have e5 := key (by omega) (by omega) h5
  have e6 := key (by omega) (by omega) h6
  omega

/-! ### a disk of one sector -/
theorem pad64_id {s : List UInt8} (h : s.length = 64) : pad64 s = s := by simp [pad64, h]
def one (a b : List UInt8) : Dk := ⟨[a], [b], false, 0, false⟩
theorem newD_one : newD 1 = one zero64 zero64 := rfl
theorem write_one {a b s : List UInt8} (h : s.length = 64) : writeE (one a b) 0 s = 0 ∧ writeD (one a b) 0 s = one s b := by
  constructor
  · simp [writeE, chkD, one, stepD, h]
  · simp [writeD, chkD, one, stepD, h, pad64_id h]
theorem sync_one {a b : List UInt8} : syncE (one a b) = 0 ∧ syncD (one a b) = one a a := by
  constructor <;> simp [syncE, syncD, one, stepD]
theorem read_one {a b : List UInt8} : readE (one a b) 0 = 0 ∧ readS (one a b) 0 = a := by
  constructor <;> simp [readE, readS, chkD, one]
theorem mend_one (a b : List UInt8) (k : Int) : ∃ n ≤ 64, mendD (one a b) [k] = one (a.take n ++ b.drop n) (a.take n ++ b.drop n) := by
  by_cases e : a = b
  · subst e
    refine ⟨64, by omega, ?_⟩
    have hd : dirtyD (one a a) = [] := by simp [dirtyD, one]
    unfold mendD
    rw [hd, List.take_append_drop]
    rfl
  · refine ⟨keepN [k] 0, keepN_le _ _, ?_⟩
    have hd : dirtyD (one a b) = [0] := by simp [dirtyD, one, e]
    unfold mendD
    rw [hd]
    have e1 : mendL (one a b) [k] [0].length = [a.take (keepN [k] 0) ++ b.drop (keepN [k] 0)] := by
      show mendL (one a b) [k] 1 = _
      unfold mendL
      rw [hd]
      rfl
    rw [e1]
    rfl
theorem one_ok {a b : List UInt8} (ha : a.length = 64) (hb : b.length = 64) : DkOk (one a b) :=
  ⟨rfl, by simp [one, Rows64, ha], by simp [one, Rows64, hb], by simp [one], by simp [one], by simp [one], by simp [one], by simp [one]⟩
theorem packE_zero {q : Int} {d : List UInt8} (h : packE q d = 0) : d.length ≤ 50 ∧ ¬ q = 0 := by
  unfold packE at h
  split at h
  · omega
  · split at h
    · omega
    · exact ⟨by omega, by assumption⟩

/-- What a torn sector reads as. -/
theorem torn_read {ga qa fa gb qb fb : Int} {da db x : List UInt8} {over : Bool} {n : Nat} (hga0 : 0 ≤ ga) (hga : ga < 65536) (hqa0 : 0 ≤ qa) (hqa : qa < 4294967296) (hfa0 : 0 ≤ fa) (hfa : fa < 256)
    (hgb0 : 0 ≤ gb) (hgb : gb < 65536) (hqb0 : 0 ≤ qb) (hqb : qb < 4294967296) (hfb0 : 0 ≤ fb) (hfb : fb < 256) (hea : packE qa da = 0) (heb : packE qb db = 0) (hne : ¬ (ga = gb ∧ qa = qb)) (hn : n ≤ 64)
    (hx : x = (packS gb qb fb db).take n ++ (bif over then packS ga qa fa da else zero64).drop n) :
    unpackL x = none ∨ (x = packS gb qb fb db ∧ unpackL x = some (gb, qb, fb, db)) ∨ (over = true ∧ x = packS ga qa fa da ∧ unpackL x = some (ga, qa, fa, da)) := by
  obtain ⟨lda, nqa⟩ := packE_zero hea
  obtain ⟨ldb, nqb⟩ := packE_zero heb
  obtain ⟨b1, b2, b3⟩ := packS_form (g := gb) (f := fb) ldb nqb
  cases hu : unpackL x with
  | none => exact .inl rfl
  | some c =>
    right
    obtain ⟨g, q, f, d⟩ := c
    obtain ⟨_, hxp, ld, nq⟩ := unpackL_inv hu
    obtain ⟨_, c2, c3⟩ := packS_form (g := g) (f := f) ld nq
    have htail : x.take 6 = x.drop 58 := by rw [hxp, c2, c3]
    cases over with
    | true =>
      obtain ⟨a1, a2, a3⟩ := packS_form (g := ga) (f := fa) lda nqa
      have hSO : stampS gb qb ≠ stampS ga qa := fun e => by
        have := stampS_inj hgb0 hgb hqb0 hqb hga0 hga hqa0 hqa e
        exact hne ⟨this.1.symm, this.2.symm⟩
      rcases torn_list b1 b2 b3 a2 a3 hSO hn hx htail with h | h
      · left
        refine ⟨h, ?_⟩
        rw [← hu, h]
        exact unpack_pack gb qb fb db hgb0 hgb hqb0 hqb hfb0 hfb ldb nqb
      · right
        refine ⟨rfl, h, ?_⟩
        rw [← hu, h]
        exact unpack_pack ga qa fa da hga0 hga hqa0 hqa hfa0 hfa lda nqa
    | false =>
      obtain ⟨a1, a2, a3⟩ := zero64_form
      have hSO : stampS gb qb ≠ List.replicate 6 0 := fun e => nqb (stampS_zero hqb0 hqb e)
      rcases torn_list b1 b2 b3 a2 a3 hSO hn hx htail with h | h
      · left
        refine ⟨h, ?_⟩
        rw [← hu, h]
        exact unpack_pack gb qb fb db hgb0 hgb hqb0 hqb hfb0 hfb ldb nqb
      · exfalso
        rw [h, unpackL_zero] at hu
        cases hu
end Go.Proofs.Ytikdpkhcegjmfaa

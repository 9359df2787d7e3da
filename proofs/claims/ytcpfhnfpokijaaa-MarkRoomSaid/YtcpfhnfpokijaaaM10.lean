/- Walks printed by gen.py out of our own specifications: what the functions named below do. -/
import Derived.Test.YtcpfhnfpokijaaaM9
set_option linter.unusedSimpArgs false
set_option linter.unusedVariables false
namespace Go.Proofs.Ytcpfhnfpokijaaa
open Go.RowKit


theorem mpackS_len (g q f : Int) (d : List UInt8) : (packS g q f d).length ≤ 64 := by
  unfold packS
  split
  · simp
  · split
    · simp
    · rw [List.length_map, packN_length g q f d (by omega)]; omega


theorem mzero : unpackL zero64 = none := by decide +kernel
theorem mnewD_calm {n : Nat} (h1 : 1 ≤ n) (h2 : n ≤ 1024) : Calm (newD n) ∧ (newD n).now.length = n := ⟨⟨newD_ok h1 h2, rfl, rfl⟩, by simp [newD]⟩
theorem mcell_new {n i : Nat} (h : i < n) : cellAt (newD n) (i : Int) = none := by
  have hc : chkD (newD n) (i : Int) = 0 := by unfold chkD; rw [if_neg (by simp [newD]), if_neg (by simp [newD]; omega)]
  unfold cellAt readE readS
  rw [if_pos hc, if_neg (by simp [hc])]
  simp [newD, h, mzero]
theorem mnewest_new {n : Nat} : ∀ k, k ≤ n → mnewest (newD n) 0 k = 0
  | 0, _ => rfl
  | k + 1, h => by
    rw [mnewest, show ((0 : Nat) : Int) + (k : Int) = (k : Int) by omega, mcell_new (by omega), if_neg (by simp)]
    exact mnewest_new k (by omega)
theorem wrM_calm {D : Dk} {M : Mr} {n : Nat} {b : List UInt8} (h : Calm D) (K : Nat) (hs : ∀ k, k < K → mSlot M n k < D.now.length) : ∀ k, k ≤ K → Calm (wrM D M n b k) ∧ (wrM D M n b k).now.length = D.now.length
  | 0, _ => ⟨h, rfl⟩
  | k + 1, hk => by
    obtain ⟨h1, h2⟩ := wrM_calm (b := b) h K hs k (by omega)
    have h3 := h1.write (i := mSlot M n k) (by rw [h2]; exact hs k (by omega)) (s := mCell M n b k) (mpackS_len _ _ _ _)
    refine ⟨h3.2.2, ?_⟩
    show (writeD _ _ _).now.length = _
    rw [h3.2.1]
    simp [h2]
theorem wrM_e {D : Dk} {M : Mr} {n : Nat} {b : List UInt8} (h : Calm D) (K : Nat) (hs : ∀ k, k < K → mSlot M n k < D.now.length) (k : Nat) (hk : k < K) : writeE (wrM D M n b k) ((mSlot M n k : Nat) : Int) (mCell M n b k) = 0 := by
  obtain ⟨h1, h2⟩ := wrM_calm (b := b) h K hs k (by omega)
  exact (h1.write (i := mSlot M n k) (by rw [h2]; exact hs k hk) (s := mCell M n b k) (mpackS_len _ _ _ _)).1
theorem mput_calm (gm : Nat) (p : Dp) (D : Dk) (M : Mr) (w : World) (hp : Hp w (mH gm p D M)) (hC : Calm D) (hM : MrB M) (ho : M.over = false) (frm : Nat) (hfr : frm < 4294967296) (s : List UInt8) (hs : s.length ≤ 90000) (hfit : (mBytes frm s).length ≤ 50 * M.size) (hgen : 0 ≤ M.gen ∧ M.gen < 65536) (hnn : M.n ≤ 900000)
    (hsl : ∀ k, k < chK (mBytes frm s).length → mSlot M (M.n + 1) k < D.now.length) :
    Fn Try.prog 20 [.pointer (some ⟨gm, 0, none⟩), .int .u32 (frm : Int), sv s] w fun v w' => v = .int .i64 0 ∧ ∃ D', (Calm D' ∧ D'.now.length = D.now.length) ∧ Mod w w' (mH gm p D M) (mH gm p D' ⟨M.base, M.size, M.gen, M.n + 1, (frm : Int), s, false⟩) := by
  obtain ⟨h1, h2⟩ := wrM_calm (b := mBytes frm s) hC (chK (mBytes frm s).length) hsl (chK (mBytes frm s).length) (Nat.le_refl _)
  refine (mput_ok gm p D M w hp hC.ok hM ho frm hfr s hs hfit hgen hnn (fun k hk => wrM_e hC _ hsl k hk) h1.syncE).mono fun v w' h => ⟨h.1, _, ⟨h1.sync, by rw [h1.syncD]; exact h2⟩, ?_⟩
  have e : ({ M with n := M.n + 1, frm := (frm : Int), text := s } : Mr) = ⟨M.base, M.size, M.gen, M.n + 1, (frm : Int), s, false⟩ := by rw [ho]
  rw [← e]
  exact h.2
theorem zeros_flat : ∀ n : Nat, (List.replicate n [Value.int .u8 0]).flatten = (List.replicate n (0 : UInt8)).map bv
  | 0 => rfl
  | n + 1 => by rw [List.replicate_succ, List.flatten_cons, zeros_flat n]; rfl
/-! ### the facts of works -/
abbrev vM0 : Mr := ⟨0, 4, 1, 0, 0, [], false⟩
abbrev vM1 : Mr := ⟨0, 4, 1, 1, 7, [97, 98, 99], false⟩
def vD1 : Dk := syncD (wrM (newD 8) vM0 1 (mBytes 7 [97, 98, 99]) (chK (mBytes 7 [97, 98, 99]).length))
def vD2 : Dk := armD vD1 1
def vD3 : Dk := syncD (wrM vD2 vM1 2 (mBytes 9 [100, 101]) (chK (mBytes 9 [100, 101]).length))
def vD4 : Dk := mendD vD3 []
theorem vb1 : (mBytes 7 [97, 98, 99]).length = 7 ∧ (mBytes 9 [100, 101]).length = 6 ∧ chK 7 = 1 ∧ chK 6 = 1 := by decide +kernel
theorem vw1 : writeE (wrM (newD 8) vM0 1 (mBytes 7 [97, 98, 99]) 0) ((mSlot vM0 1 0 : Nat) : Int) (mCell vM0 1 (mBytes 7 [97, 98, 99]) 0) = 0 ∧ syncE (wrM (newD 8) vM0 1 (mBytes 7 [97, 98, 99]) 1) = 0 := by decide +kernel
theorem vw2 : writeE (wrM vD2 vM1 2 (mBytes 9 [100, 101]) 0) ((mSlot vM1 2 0 : Nat) : Int) (mCell vM1 2 (mBytes 9 [100, 101]) 0) = 0 ∧ syncE (wrM vD2 vM1 2 (mBytes 9 [100, 101]) 1) = 9 := by decide +kernel
theorem vc4 : cellAt vD4 0 = none ∧ cellAt vD4 4 = some (1, 1, 0, [1, 7, 1, 3, 97, 98, 99]) ∧ mnewest vD4 0 8 = 1 ∧ vD4.now.length = 8 := by decide +kernel
theorem vl0 : DkOk (newD 8) := newD_ok (by decide) (by decide)
theorem vl1 : DkOk vD1 := syncD_ok (wrM_ok vl0 _)
theorem vl2 : DkOk vD2 := armD_ok vl1 1 (by decide)
theorem vl3 : DkOk vD3 := syncD_ok (wrM_ok vl2 _)
theorem vl4 : Calm vD4 := ⟨mendD_ok vl3 [], rfl, rfl⟩

end Go.Proofs.Ytcpfhnfpokijaaa

/- Walks printed by gen.py out of our own specifications: what the functions named below do. -/
import Derived.Test.YtcpfhnfpokijaaaJ9
set_option linter.unusedSimpArgs false
set_option linter.unusedVariables false
namespace Go.Proofs.Ytcpfhnfpokijaaa
open Go.RowKit


theorem fr_jk {gj : Nat} {p : Dp} {D : Dk} {J : Jn} {w : World} {X : List Nat} (hdk : ∀ y ∈ [p.gd, p.gn, p.gl], w.heap.size ≤ y) (hg : w.heap.size ≤ gj) : ∀ y ∈ keys (jH gj p D J), y ∈ X ∨ w.heap.size ≤ y := fun y hy => by
  have e : keys (jH gj p D J) = [p.gd, p.gn, p.gl] ++ [gj] := rfl
  rw [e, List.mem_append] at hy
  rcases hy with h | h
  · exact .inr (hdk y h)
  · simp only [List.mem_singleton] at h
    subst h
    exact .inr hg
theorem fr_dkn {p : Dp} {D : Dk} {o : Obj} {w : World} {X : List Nat} (hdk : ∀ y ∈ [p.gd, p.gn, p.gl], w.heap.size ≤ y) : ∀ y ∈ keys (dkH p D ++ [(none, o)]), y ∈ X ∨ w.heap.size ≤ y := fun y hy => .inr (hdk y hy)
theorem appD_calm {D : Dk} {J : Jn} (s : List UInt8) (h : Calm D) (hJ : JnOk J) (hb : J.base + J.size ≤ D.now.length) : Calm (appD D J s) ∧ (appD D J s).now.length = D.now.length := by
  unfold appD
  split
  · exact wrN_calm h hJ hb _
  · exact ⟨h, rfl⟩
abbrev wJ (nx ls : Nat) : Jn := ⟨2, 8, 1, 0, 1, nx, ls, false⟩
theorem wJ_ok {nx ls : Nat} (h1 : 1 ≤ nx) (h2 : nx ≤ 9) (h3 : ls ≤ 9) : JnOk (wJ nx ls) := ⟨show 2 ≤ 2000 by decide, show 8 ≤ 1024 by decide, show 1 ≤ 8 by decide, show 1 ≤ 1000000 by decide, by simp only; omega, by simp only; omega, show (0 : Int) ≤ 1 ∧ (1 : Int) < 65536 by decide, show (0 : Int) ≤ 0 ∧ (0 : Int) < 65536 by decide, h1, by simp only; omega⟩
def wLong : List UInt8 := List.replicate 120 0
def wMore : List UInt8 := List.replicate 200 0
def wD1 : Dk := appD (newD 10) (wJ 1 1) [97]
def wD2 : Dk := appD wD1 (wJ 2 1) wLong
def wD3 : Dk := syncD wD2
def wD4 : Dk := appD wD3 (wJ 5 5) [99]
def wD5 : Dk := appD wD4 (wJ 6 5) wMore
def wD6 : Dk := mendD wD5 []
theorem appD_cl {D : Dk} {J : Jn} {n : Nat} (s : List UInt8) (h : Calm D ∧ D.now.length = n) (hJ : JnOk J) (hb : J.base + J.size ≤ n) : Calm (appD D J s) ∧ (appD D J s).now.length = n := by
  have h2 := appD_calm s h.1 hJ (by rw [h.2]; exact hb)
  exact ⟨h2.1, h2.2.trans h.2⟩
theorem syncD_cl {D : Dk} {n : Nat} (h : Calm D ∧ D.now.length = n) : Calm (syncD D) ∧ (syncD D).now.length = n := ⟨h.1.sync, by rw [h.1.syncD]; exact h.2⟩
theorem mendD_cl {D : Dk} {n : Nat} (ks : List Int) (h : Calm D ∧ D.now.length = n) : Calm (mendD D ks) ∧ (mendD D ks).now.length = n := ⟨⟨mendD_ok h.1.ok ks, rfl, rfl⟩, by unfold mendD; simp only; rw [mendL_len, h.1.ok.len, h.2]⟩
theorem newD_cl {n : Nat} (h1 : 1 ≤ n) (h2 : n ≤ 1024) : Calm (newD n) ∧ (newD n).now.length = n := ⟨newD_calm h1 h2, by simp [newD]⟩
theorem wc0 : Calm (newD 10) ∧ (newD 10).now.length = 10 := newD_cl (by decide) (by decide)
theorem wc1 : Calm wD1 ∧ wD1.now.length = 10 := appD_cl [97] wc0 (wJ_ok (nx := 1) (ls := 1) (by decide) (by decide) (by decide)) (show 2 + 8 ≤ 10 by decide)
theorem wc2 : Calm wD2 ∧ wD2.now.length = 10 := appD_cl wLong wc1 (wJ_ok (nx := 2) (ls := 1) (by decide) (by decide) (by decide)) (show 2 + 8 ≤ 10 by decide)
theorem wc3 : Calm wD3 ∧ wD3.now.length = 10 := syncD_cl wc2
theorem wc4 : Calm wD4 ∧ wD4.now.length = 10 := appD_cl [99] wc3 (wJ_ok (nx := 5) (ls := 5) (by decide) (by decide) (by decide)) (show 2 + 8 ≤ 10 by decide)
theorem wc5 : Calm wD5 ∧ wD5.now.length = 10 := appD_cl wMore wc4 (wJ_ok (nx := 6) (ls := 5) (by decide) (by decide) (by decide)) (show 2 + 8 ≤ 10 by decide)
theorem wc6 : Calm wD6 ∧ wD6.now.length = 10 := mendD_cl [] wc5
theorem wq1 : appD (newD 10) (wJ 1 1) [97] = wD1 := rfl
theorem wq2 : appD wD1 (wJ 2 1) wLong = wD2 := rfl
theorem wq3 : syncD wD2 = wD3 := rfl
theorem wq3j : ({ wJ 5 1 with lasts := (wJ 5 1).next } : Jn) = wJ 5 5 := rfl
theorem wq4 : appD wD3 (wJ 5 5) [99] = wD4 := rfl
theorem wq5 : appD wD4 (wJ 6 5) wMore = wD5 := rfl
theorem wq6 : mendD wD5 [] = wD6 := rfl
theorem we1 : appE (wJ 1 1) [97] = 0 ∧ appJ (wJ 1 1) [97] = wJ 2 1 := by decide +kernel
theorem we2 : appE (wJ 2 1) wLong = 0 ∧ appJ (wJ 2 1) wLong = wJ 5 1 := by decide +kernel
theorem we4 : appE (wJ 5 5) [99] = 0 ∧ appJ (wJ 5 5) [99] = wJ 6 5 := by decide +kernel
theorem we5 : appE (wJ 6 5) wMore = 4 ∧ appJ (wJ 6 5) wMore = wJ 6 5 := by decide +kernel
theorem wf0 : openJ (newD 10) 2 8 1 0 = wJ 1 1 ∧ (openF (newD 10) 2 8 1 0).l = [] := by decide +kernel
theorem wg0 : newestD (newD 10) 2 8 < 65535 := by decide +kernel
theorem wf6 : (openJ wD6 2 8 1 0).next = 5 ∧ (openF wD6 2 8 1 0).l = [[97], wLong] := by decide +kernel
theorem wg6 : newestD wD6 2 8 < 65535 := by decide +kernel

end Go.Proofs.Ytcpfhnfpokijaaa

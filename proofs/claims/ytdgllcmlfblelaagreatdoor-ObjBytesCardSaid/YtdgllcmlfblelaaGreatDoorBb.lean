/- Walks printed by gen2.py out of our own specifications: what the functions named below do. -/
import Derived.Test.YtdgllcmlfblelaaGreatDoorSc
import Derived.Test.YtdgllcmlfblelaaGreatDoorBa
set_option linter.unusedSimpArgs false
set_option linter.unusedVariables false
namespace Go.Proofs.YtdgllcmlfblelaaGreatDoor
open Go.RowKit


def Ek (p : Nat × Option Nat) (t : RdM) : Prop := Eok p.2 t
theorem Ek.r {p : Nat × Option Nat} {t : RdM} (h : Ek p t) : Rok t := h.1
theorem rd_post {X : List Nat} {w w' : World} {g : Nat} {q : Option Nat} {T T' : RdM} (hs : St X w [(some g, Cl (rdC q T) 83), (q, Cl (ftC T) 98)] []) (h : RdTo g q T T' w w') : ∃ q' : Option Nat, Ek ⟨g, q'⟩ T' ∧ St X w' [(some g, Cl (rdC q' T') 83), (q', Cl (ftC T') 98)] [] ∧ Fr (keys [(some g, Cl (rdC q T) 83), (q, Cl (ftC T) 98)]) w w' ∧ (∀ k ∈ keys [(some g, Cl (rdC q' T') 83), (q', Cl (ftC T') 98)], k ∈ (keys [(some g, Cl (rdC q T) 83), (q, Cl (ftC T) 98)]) ∨ w.heap.size ≤ k) := by
  obtain ⟨q', hok, hM⟩ := h
  exact ⟨q', hok, hs.callM [] [0, 1] (by decide) rfl hM, hM.fr, hM.nw⟩
def rat_m (t : RdM) : Int := t.a
def rleft_m (t : RdM) : Int := t.s.length - t.a
def rnew_m (s : List UInt8) : RdM := ⟨s, 0, ⟨0, 0⟩⟩

theorem sFail_ok (X : List Nat) (w : World) (g : Nat) (q : Option Nat) (T : RdM) (hok : Ek ⟨g, q⟩ T) (e : Int) (hs : St X w [(some g, Cl (rdC q T) 83), (q, Cl (ftC T) 98)] [])  :
    Fn Tryz.prog 39 [.pointer (some ⟨g, 0, none⟩), .int .i64 e] w fun v w' => ∃ (q' : Option Nat), v = .tuple #[] ∧ Ek ⟨g, q'⟩ (rfail_m T e) ∧ St X w' [(some g, Cl (rdC q' (rfail_m T e)) 83), (q', Cl (ftC (rfail_m T e)) 98)] [] ∧ Fr (keys [(some g, Cl (rdC q T) 83), (q, Cl (ftC T) 98)]) w w' ∧ (∀ k ∈ keys [(some g, Cl (rdC q' (rfail_m T e)) 83), (q', Cl (ftC (rfail_m T e)) 98)], k ∈ (keys [(some g, Cl (rdC q T) 83), (q, Cl (ftC T) 98)]) ∨ w.heap.size ≤ k) :=
  (ofail_ok g q T e w hok hs.hp).mono fun v w' ⟨hv, hp⟩ => by
    obtain ⟨q', h1, h2⟩ := rd_post hs hp
    exact ⟨q', hv, h1, h2⟩

theorem sNum_ok (X : List Nat) (w : World) (g : Nat) (q : Option Nat) (T : RdM) (hok : Ek ⟨g, q⟩ T)  (hs : St X w [(some g, Cl (rdC q T) 83), (q, Cl (ftC T) 98)] [])  :
    Fn Tryz.prog 63 [.pointer (some ⟨g, 0, none⟩)] w fun v w' => ∃ (q' : Option Nat), v = .int .u64 (rnum_m T).1 ∧ Ek ⟨g, q'⟩ (rnum_m T).2 ∧ St X w' [(some g, Cl (rdC q' (rnum_m T).2) 83), (q', Cl (ftC (rnum_m T).2) 98)] [] ∧ Fr (keys [(some g, Cl (rdC q T) 83), (q, Cl (ftC T) 98)]) w w' ∧ (∀ k ∈ keys [(some g, Cl (rdC q' (rnum_m T).2) 83), (q', Cl (ftC (rnum_m T).2) 98)], k ∈ (keys [(some g, Cl (rdC q T) 83), (q, Cl (ftC T) 98)]) ∨ w.heap.size ≤ k) :=
  (oRnum_ok g q T w hok hs.hp).mono fun v w' ⟨hv, hp⟩ => by
    obtain ⟨q', h1, h2⟩ := rd_post hs hp
    exact ⟨q', hv, h1, h2⟩

theorem sInt_ok (X : List Nat) (w : World) (g : Nat) (q : Option Nat) (T : RdM) (hok : Ek ⟨g, q⟩ T) (m : Int) (hs : St X w [(some g, Cl (rdC q T) 83), (q, Cl (ftC T) 98)] []) (hm : m < 9223372036854775808) :
    Fn Tryz.prog 34 [.pointer (some ⟨g, 0, none⟩), .int .i64 m] w fun v w' => ∃ (q' : Option Nat), v = .int .i64 (rint_m T m).1 ∧ Ek ⟨g, q'⟩ (rint_m T m).2 ∧ St X w' [(some g, Cl (rdC q' (rint_m T m).2) 83), (q', Cl (ftC (rint_m T m).2) 98)] [] ∧ Fr (keys [(some g, Cl (rdC q T) 83), (q, Cl (ftC T) 98)]) w w' ∧ (∀ k ∈ keys [(some g, Cl (rdC q' (rint_m T m).2) 83), (q', Cl (ftC (rint_m T m).2) 98)], k ∈ (keys [(some g, Cl (rdC q T) 83), (q, Cl (ftC T) 98)]) ∨ w.heap.size ≤ k) :=
  (oRint_ok g q T w hok hs.hp m hm).mono fun v w' ⟨hv, hp⟩ => by
    obtain ⟨q', h1, h2⟩ := rd_post hs hp
    exact ⟨q', hv, h1, h2⟩

theorem sText_ok (X : List Nat) (w : World) (g : Nat) (q : Option Nat) (T : RdM) (hok : Ek ⟨g, q⟩ T) (m : Int) (hs : St X w [(some g, Cl (rdC q T) 83), (q, Cl (ftC T) 98)] []) (hm : m < 9223372036854775808) :
    Fn Tryz.prog 35 [.pointer (some ⟨g, 0, none⟩), .int .i64 m] w fun v w' => ∃ (q' : Option Nat), v = sv (rtext_m T m).1 ∧ Ek ⟨g, q'⟩ (rtext_m T m).2 ∧ St X w' [(some g, Cl (rdC q' (rtext_m T m).2) 83), (q', Cl (ftC (rtext_m T m).2) 98)] [] ∧ Fr (keys [(some g, Cl (rdC q T) 83), (q, Cl (ftC T) 98)]) w w' ∧ (∀ k ∈ keys [(some g, Cl (rdC q' (rtext_m T m).2) 83), (q', Cl (ftC (rtext_m T m).2) 98)], k ∈ (keys [(some g, Cl (rdC q T) 83), (q, Cl (ftC T) 98)]) ∨ w.heap.size ≤ k) :=
  (oRtext_ok g q T w hok hs.hp m hm).mono fun v w' ⟨hv, hp⟩ => by
    obtain ⟨q', h1, h2⟩ := rd_post hs hp
    exact ⟨q', hv, h1, h2⟩

theorem sAt_ok (X : List Nat) (w : World) (g : Nat) (q : Option Nat) (T : RdM) (hok : Ek ⟨g, q⟩ T) (hs : St X w [(some g, Cl (rdC q T) 83), (q, Cl (ftC T) 98)] []) :
    Fn Tryz.prog 13 [.pointer (some ⟨g, 0, none⟩)] w fun v w' => v = .int .i64 (rat_m T) ∧ Fr [] w w' :=
  (oat_ok g q T w hok hs.hp).mono fun v w' ⟨hv, hw⟩ => ⟨hv, hw ▸ Fr.refl _ _⟩

theorem sLeft_ok (X : List Nat) (w : World) (g : Nat) (q : Option Nat) (T : RdM) (hok : Ek ⟨g, q⟩ T) (hs : St X w [(some g, Cl (rdC q T) 83), (q, Cl (ftC T) 98)] []) :
    Fn Tryz.prog 62 [.pointer (some ⟨g, 0, none⟩)] w fun v w' => v = .int .i64 (rleft_m T) ∧ Fr [] w w' :=
  (oleft_ok g q T w hok hs.hp).mono fun v w' ⟨hv, hw⟩ => ⟨hv, hw⟩

theorem sErr_ok (X : List Nat) (w : World) (g : Nat) (q : Option Nat) (T : RdM) (hok : Ek ⟨g, q⟩ T) (hs : St X w [(some g, Cl (rdC q T) 83), (q, Cl (ftC T) 98)] []) :
    Fn Tryz.prog 15 [.pointer (some ⟨g, 0, none⟩)] w fun v w' => v = errV 94 q ∧ Fr [] w w' :=
  (oerr_ok g q T w hok hs.hp).mono fun v w' ⟨hv, hw⟩ => ⟨hv, hw ▸ Fr.refl _ _⟩

theorem sNew_ok (X : List Nat) (w : World) (hX : Lo X w) (s : List UInt8) (hl : s.length ≤ 1000000) :
    Fn Tryz.prog 8 [sv s] w fun v w' => ∃ (g : Nat) (q : Option Nat), v = .pointer (some ⟨g, 0, none⟩) ∧ Ek ⟨g, q⟩ (rnew_m s) ∧ St X w' [(some g, Cl (rdC q (rnew_m s)) 83), (q, Cl (ftC (rnew_m s)) 98)] [] ∧ Fr [] w w' ∧ (∀ k ∈ keys [(some g, Cl (rdC q (rnew_m s)) 83), (q, Cl (ftC (rnew_m s)) 98)], w.heap.size ≤ k) := by
  refine (onew_ok s w).mono ?_
  rintro v w' ⟨g, rfl, hN⟩
  have hN2 : New w w' [(some g, Cl (rdC none (rnew_m s)) 83), (none, Cl (ftC (rnew_m s)) 98)] := ⟨hN.fr, hN.hp.addNone _, hN.nw⟩
  refine ⟨g, none, rfl, ⟨⟨Int.le_refl _, ?_, hl, fun _ => rfl, Int.le_refl _, show (0 : Int) ≤ 1000000 by decide⟩, by simp [rnew_m]⟩, ?_, hN2.fr, hN2.nw⟩
  · simp [rnew_m]
  · exact ⟨hN2.hp, by simp, fun x hx => Nat.lt_of_lt_of_le (hX x hx) hN2.fr.size, fun x hx h => by have := hN2.nw x h; have := hX x hx; omega⟩


end Go.Proofs.YtdgllcmlfblelaaGreatDoor

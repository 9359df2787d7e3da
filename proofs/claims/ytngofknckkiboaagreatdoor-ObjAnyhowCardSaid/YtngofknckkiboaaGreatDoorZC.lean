/- Walks printed by gen2.py out of our own specifications: what the functions named below do. -/
import Derived.Test.YtngofknckkiboaaGreatDoorSc
import Derived.Test.YtngofknckkiboaaGreatDoorZ9
import Derived.Test.YtngofknckkiboaaGreatDoorPc
set_option linter.unusedSimpArgs false
set_option linter.unusedVariables false
namespace Go.Proofs.YtngofknckkiboaaGreatDoor
open Go.RowKit


theorem compactTag_eq (s : List TagM) : compactTag_m s = dd s := by
  unfold compactTag_m
  split
  · rename_i h0
    match s, h0 with
    | [], _ => rfl
    | [a], _ => rfl
    | a :: b :: l, h => simp at h; omega
  · rename_i h
    have hs : 1 ≤ s.length := by omega
    rcases compact_spec s (⟨⟨0, 0⟩, 0⟩ : TagM) (compactTag_L2 s) (compactTag_L1 s) (fun _ _ _ _ _ _ => rfl) (fun fuel s3 r0 => by
      rw [compactTag_L1]
      generalize compactTag_L2 s s3 r0 (((s.length : Int) - (1 : Int)).toNat + 1) s3 (1 : Int) r0 = X
      rcases X with r | ⟨a, b, c⟩ <;> rfl) hs (((s.length : Int) - (1 : Int)).toNat + 1) 1 (by omega) (by omega) (by
      match s, hs with
      | a :: l, _ => rfl) (by omega) with e | ⟨⟨q, e⟩, e2⟩
    · rw [e]
    · rw [e]; exact e2.symm
theorem compactStr_eq (s : List (List UInt8)) : compactStr_m s = dd s := by
  unfold compactStr_m
  split
  · rename_i h0
    match s, h0 with
    | [], _ => rfl
    | [a], _ => rfl
    | a :: b :: l, h => simp at h; omega
  · rename_i h
    have hs : 1 ≤ s.length := by omega
    rcases compact_spec s ([] : List UInt8) (compactStr_L2 s) (compactStr_L1 s) (fun _ _ _ _ _ _ => rfl) (fun fuel s3 r0 => by
      rw [compactStr_L1]
      generalize compactStr_L2 s s3 r0 (((s.length : Int) - (1 : Int)).toNat + 1) s3 (1 : Int) r0 = X
      rcases X with r | ⟨a, b, c⟩ <;> rfl) hs (((s.length : Int) - (1 : Int)).toNat + 1) 1 (by omega) (by omega) (by
      match s, hs with
      | a :: l, _ => rfl) (by omega) with e | ⟨⟨q, e⟩, e2⟩
    · rw [e]
    · rw [e]; exact e2.symm
theorem oelems_z (s : SetM) : oelems_m s = if ocheck_m s = 0 then dd (sortS (s.adds.map (·.elem))) else [] := by
  unfold oelems_m
  rw [loop_fold0 s.adds (fun acc x => acc ++ [x.elem]) (oelems_L1 s) (fun _ _ _ _ => rfl)]
  simp only [foldl_map_app, List.nil_append, compactStr_eq]
theorem oelems_len (s : SetM) : (oelems_m s).length ≤ s.adds.length := by
  rw [oelems_z]; split
  · have := dd_len (sortS (s.adds.map (·.elem))); rw [sortS_len, List.length_map] at this; exact this
  · simp

end Go.Proofs.YtngofknckkiboaaGreatDoor

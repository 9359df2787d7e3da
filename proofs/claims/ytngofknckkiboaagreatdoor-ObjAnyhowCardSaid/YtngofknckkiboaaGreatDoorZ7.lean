/- Walks printed by gen2.py out of our own specifications: what the functions named below do. -/
import Derived.Test.YtngofknckkiboaaGreatDoorSc
import Derived.Test.YtngofknckkiboaaGreatDoorZU
import Derived.Test.YtngofknckkiboaaGreatDoorShelf
set_option linter.unusedSimpArgs false
set_option linter.unusedVariables false
namespace Go.Proofs.YtngofknckkiboaaGreatDoor
open Go.RowKit


open Go.Shelf Go.Lib Go.Sort
theorem sortTag_ok (X : List Nat) (w : World) (s : List TagM) (A : Option Addr) (c : Nat) (sp : List Value) (hs : St X w [(blkOf A, Cl (s.flatMap tagMC ++ sp) 60)] []) (how : Ow A s.length c 3 (s.flatMap tagMC) sp) (hs62 : s.length < 4611686018427387904) :
    Fn Tryz.prog 65 [.slice A s.length c, .func (.func 48) #[] #[]] w fun v w' => v = .tuple #[] ∧ Ow A s.length c 3 ((sortF icompareTag_m s).flatMap tagMC) sp ∧ (sortF icompareTag_m s).length = s.length ∧ St X w' [(blkOf A, Cl ((sortF icompareTag_m s).flatMap tagMC ++ sp) 60)] [] ∧ Fr (keys [(blkOf A, Cl (s.flatMap tagMC ++ sp) 60)]) w w' :=
  sortFn (e := 60) Tryz.laysSortTag (agg_run Ty.ag_60) (run_sizeOf Ty.sz_60) (fun _ => rfl) (by decide) (fun x v hv => by simp [tagMC] at hv; rcases hv with h | h | h <;> subst h <;> rfl) swo_tag tot_tag (cb := []) (enters_run Ty.en_48) Ty.en_65 X w s hs62 A c sp hs how
    (fun w1 x y _ => icompareTag_ok w1 x y)

end Go.Proofs.YtngofknckkiboaaGreatDoor

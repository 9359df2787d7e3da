/- From a walk to the given card of a law whose row lists package-level variables. -/
import Derived.Test.YtngofknckkiboaaGreatDoorLaw
import Derived.Test.YtngofknckkiboaaGreatDoorCards
import Derived.Test.YtngofknckkiboaaGreatDoorTie
import Derived.HandedShaped
import Derived.Lay
import Derived.MakeChecks
import Derived.LaidMore
import Derived.SevenTiedAt
namespace Go.Proofs.YtngofknckkiboaaGreatDoor
open Go.ChangeShapes Go.WideShapes Go.ChangeAt Go.RowKit Go.Joins

set_option maxRecDepth 100000 in
theorem law_liftD {f : FuncId} {fn : Func} {s : ChangeSpec} {tb : TypeId} {laid : List (String × DataW Unit)} (hfn : Tryz.prog.funcs[f]? = some fn) (hinit : Tryz.prog.inits.idxOf? f = none) (hv : s.vars = []) (hr : fn.resultTypes = #[tb]) (htb : Tryz.prog.underlying tb = some .bool) (hread : readsB Tryz.prog fn.params.toList = true)
    (hspec : ∀ (H : Type) (ds : List (DataW H)), ds.length = fn.params.toList.length → s.fn H ds = { results := [.lit (.bool true)], args := ds })
    (walk : ∀ (W : World) (args : Array Value), ArgsOk fn W args → W.ShapedOpen Tryz.prog → laidMetH Tryz.prog laid W → Fn Tryz.prog f args.toList W fun v w' => v = .bool true ∧ Fr [] W w')
    (os : Os) (started : os.Started) (H : Type) (enc : TypeId × Value → H)
    (witness : ∃ (w : World) (tape : Tape) (i : Input), w.os = os ∧ (w.forCall tape i).Shaped Tryz.checked.prog ∧ i.vars = [] ∧ Input.okWide Tryz.checked.prog (w.forCall tape i) .any w.heap.size f i ∧
      ((s.pre enc Tryz.checked.prog fn [] false (w.forCall tape i).memory i.args ∧ laidMetH Tryz.prog laid (w.forCall tape i).memory) ∧ sizedMet enc Tryz.checked.prog fn (OpenSpec.ofChange s) false (w.forCall tape i).memory i.args) ∧ ({} : Assume).holds Tryz.checked.prog (lone (Frame.enter Tryz.checked.prog f i.args .normal) [] (w.forCall tape i))) :
    ReturnsInHanded {} Tryz.checked os f .any (fun w args => (s.pre enc Tryz.prog fn [] false w args ∧ laidMetH Tryz.prog laid w) ∧ sizedMet enc Tryz.prog fn (OpenSpec.ofChange s) false w args) (s.post enc Tryz.prog fn false true false false) := by
  refine returnsInHanded_of_calls Tryz.own' started hinit witness ?_
  intro w tape i _ hsh _ hok hpre hholds
  obtain ⟨_, _, _, fn', hfn', _, _, _, _, hval⟩ := hok
  have e : fn' = fn := Option.some.inj (hfn'.symm.trans hfn)
  subst e
  obtain ⟨⟨⟨ds, gs, before, hw, hc⟩, hx⟩, hz⟩ := hpre
  have hw' := DataW.Whole.of_heap (w' := w.forCall tape i) (by rfl) hw
  have hX : laidMetH Tryz.prog laid (w.forCall tape i) := hx.of_heap (by rfl)
  have hW' : DataW.Whole enc Tryz.prog fn'.params.toList s.vars false (w.forCall tape i) i.args.toList ds gs before := hw'
  have hlt : ∀ x ∈ before, x.block < (w.forCall tape i).heap.size := fun x hx => hW'.lt x hx
  obtain ⟨p, q, hA, hV, hps, _, _⟩ := id hW'
  have hlen : ds.length = fn'.params.toList.length := by
    have key : ∀ (W : World) (ts : List TypeId) (vs : List Value) (ds : List (DataW H)) (ps : List MemPlace), DataW.TrodAll enc Tryz.prog W 0 (fun _ => true) true ts vs ds ps → ds.length = ts.length := by
      intro W ts
      induction ts with
      | nil => intro vs ds ps h; obtain ⟨_, rfl, _⟩ := trodAll_nil h; rfl
      | cons t ts ih => intro vs ds ps h; obtain ⟨v, vs, d, ds, p, q, rfl, rfl, rfl, _, h1⟩ := trodAll_cons h; simp [ih _ _ _ h1]
    exact key _ _ _ _ _ hA
  have hcl := (walk (w.forCall tape i) i.args ⟨H, enc, w.heap.size, ds, p, hval, hA, fun x hx => hlt x (by rw [hps]; exact List.mem_append_left _ hx)⟩ hsh hX).2
  rw [Array.toArray_toList] at hcl
  refine Calls.mono hcl fun e W' ⟨v, he, hv', hF⟩ => ?_
  subst he
  subst hv'
  exact ChangeSpec.post_blind (law_post hv hW' (hspec H ds hlen) hr htb hread hF.below)
end Go.Proofs.YtngofknckkiboaaGreatDoor

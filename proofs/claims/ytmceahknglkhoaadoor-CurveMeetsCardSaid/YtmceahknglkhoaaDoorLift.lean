/- Contracts lifted to a world that has grown. -/
import Derived.Test.YtmceahknglkhoaaDoorZeros
namespace Go.Proofs.YtmceahknglkhoaaDoor
open Go.RowKit
set_option linter.unusedVariables false

def GrownH (w : World) (v : Value) (e : Ending) (w' : World) : Prop := e = .returned v ∧ Hid (w.grownBy w' none)
theorem lift (w : World) {k : FuncId} {args : Array Value} {v : Value} (A : ∀ W : World, Calls Tryd.prog k args W (Grown v W)) (W : World) (h : Hid (w.grownBy W none)) : Calls Tryd.prog k args W (GrownH w v) :=
  (A W).mono fun e w' ⟨h1, h2⟩ => ⟨h1, Lib.hid (grow_trans h.out h2)⟩

end Go.Proofs.YtmceahknglkhoaaDoor

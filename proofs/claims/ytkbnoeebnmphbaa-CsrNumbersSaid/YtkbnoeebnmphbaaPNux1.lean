/- The law CsrNumbers in the form that its row asks (wip/tools/rowgen.py). -/
import Derived.Test.YtkbnoeebnmphbaaHnumbers
namespace Go.Proofs.Ytkbnoeebnmphbaa.PNu
open Go.RowKit Go.Proofs.YtkbnoeebnmphbaaW.PrintWords Go.Proofs.Ytkbnoeebnmphbaa.H
set_option linter.unusedVariables false
def vireolaw08_CsrNumbers.f (a0 : Int) : Option Bool := some true
theorem vireolaw08_CsrNumbers.calls (a0 : Int) (r : Bool) (w : World) (h : vireolaw08_CsrNumbers.f a0 = some r) :
    Calls Try.prog 3 #[.int .i64 a0] w fun e w' => e = .returned (.bool r) ∧ Below w.heap.size w w' := by
  obtain rfl := Option.some.inj h
  exact numbers_c a0 w
end Go.Proofs.Ytkbnoeebnmphbaa.PNu

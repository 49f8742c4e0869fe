import Derived.Test.YtkbnoeebnmphbaaPNux1
import Derived.Test.YtkbnoeebnmphbaaVo
import Derived.WalkKit
import Derived.KernelRfl
namespace Go.Proofs.Ytkbnoeebnmphbaa.OpNu
open Go.RowKit Go.Proofs.Ytkbnoeebnmphbaa.PNu Go.Proofs.YtkbnoeebnmphbaaW.PrintWords Go.Proofs.Ytkbnoeebnmphbaa.Vo Go.Proofs.Ytkbnoeebnmphbaa.PAl
set_option linter.unusedVariables false
set_option linter.unusedSimpArgs false
def good3 (y : Int) : Prop := (Lit.int .i64 y).wf = true
theorem opens3 : Opens Try.prog 3 (Kd.int .i64) good3 := opens_int Try.underlying3
def vireolaw08_CsrNumbers.Pure2 : Prop := ∀ (b0 : Int), good3 b0 → vireolaw08_CsrNumbers.f b0 = some true
end Go.Proofs.Ytkbnoeebnmphbaa.OpNu

/- CsrNumbers: the numbers of registers and of the status's bits are the document's, place by place, for every place; no condition. -/
import Derived.Test.YtkbnoeebnmphbaaPNux1
import Derived.Test.YtkbnoeebnmphbaaOpNu
namespace Go.Proofs.Ytkbnoeebnmphbaa.PureCsrNumbers
open Go.RowKit Go.Proofs.Ytkbnoeebnmphbaa.PNu Go.Proofs.YtkbnoeebnmphbaaW.PrintWords Go.Proofs.YtkbnoeebnmphbaaW.PrintLast
open Go.Proofs.Ytkbnoeebnmphbaa.Vw Go.Proofs.Ytkbnoeebnmphbaa.Pure Go.Proofs.Ytkbnoeebnmphbaa.H Go.Proofs.Ytkbnoeebnmphbaa.PAl Go.Proofs.Ytkbnoeebnmphbaa.OpNu
set_option linter.unusedVariables false
set_option linter.unusedSimpArgs false

theorem CsrNumbers : vireolaw08_CsrNumbers.Pure2 := by
  intro b0 h0
  rfl
end Go.Proofs.Ytkbnoeebnmphbaa.PureCsrNumbers
namespace Go.Proofs.Ytkbnoeebnmphbaa.Pure
theorem CsrNumbers : OpNu.vireolaw08_CsrNumbers.Pure2 := PureCsrNumbers.CsrNumbers
end Go.Proofs.Ytkbnoeebnmphbaa.Pure

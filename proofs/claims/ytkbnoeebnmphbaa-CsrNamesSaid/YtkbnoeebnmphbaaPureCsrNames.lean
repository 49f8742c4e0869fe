/- CsrNames: a number is of a register, and its name, as the document's rows say, for every number; no condition. -/
import Derived.Test.YtkbnoeebnmphbaaPNmx1
import Derived.Test.YtkbnoeebnmphbaaOpNm
namespace Go.Proofs.Ytkbnoeebnmphbaa.PureCsrNames
open Go.RowKit Go.Proofs.Ytkbnoeebnmphbaa.PNm Go.Proofs.YtkbnoeebnmphbaaW.PrintWords Go.Proofs.YtkbnoeebnmphbaaW.PrintLast
open Go.Proofs.Ytkbnoeebnmphbaa.Vw Go.Proofs.Ytkbnoeebnmphbaa.Pure Go.Proofs.Ytkbnoeebnmphbaa.H Go.Proofs.Ytkbnoeebnmphbaa.PAl Go.Proofs.Ytkbnoeebnmphbaa.OpNm
set_option linter.unusedVariables false
set_option linter.unusedSimpArgs false

theorem CsrNames : vireolaw08_CsrNames.Pure2 := by
  intro b0 h0
  rfl
end Go.Proofs.Ytkbnoeebnmphbaa.PureCsrNames
namespace Go.Proofs.Ytkbnoeebnmphbaa.Pure
theorem CsrNames : OpNm.vireolaw08_CsrNames.Pure2 := PureCsrNames.CsrNames
end Go.Proofs.Ytkbnoeebnmphbaa.Pure

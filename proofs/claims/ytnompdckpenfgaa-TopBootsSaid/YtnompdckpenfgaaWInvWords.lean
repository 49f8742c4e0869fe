-- Laid by this seat's own program (wip/tools/wprune.py) out of the words of the kit's print: what the claim's texts name.
import Derived.Test.YtnompdckpenfgaaWInv
import Derived.Test.YtnompdckpenfgaaWFootNe
namespace Go.Proofs.YtnompdckpenfgaaW.PrintWords
open Go.RowKit
end Go.Proofs.YtnompdckpenfgaaW.PrintWords
namespace Go.Proofs.YtnompdckpenfgaaW.PrintLast
section
variable {ops : Array Oper} {a : Act} {o og : Oper} {g : Nat} {t : Tmp} {u : Bool}
end
end Go.Proofs.YtnompdckpenfgaaW.PrintLast

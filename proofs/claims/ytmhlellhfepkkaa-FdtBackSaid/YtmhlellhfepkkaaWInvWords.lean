-- Laid by this seat's own program (wip/tools/wprune.py) out of the words of the kit's print: what the claim's texts name.
import Derived.Test.YtmhlellhfepkkaaWInv
import Derived.Test.YtmhlellhfepkkaaWFootNe
namespace Go.Proofs.YtmhlellhfepkkaaW.PrintWords
open Go.RowKit
end Go.Proofs.YtmhlellhfepkkaaW.PrintWords
namespace Go.Proofs.YtmhlellhfepkkaaW.PrintLast
section
variable {ops : Array Oper} {a : Act} {o og : Oper} {g : Nat} {t : Tmp} {u : Bool}
end
end Go.Proofs.YtmhlellhfepkkaaW.PrintLast

-- Laid by this seat's own program (wip/tools/wprune.py) out of the words of the kit's print: what the claim's texts name.
import Derived.Test.YtnompdckpenfgaaWTab
/-! ### 56. Four, five, six operations that may come up next, in any order -/
namespace Go.Proofs.YtnompdckpenfgaaW.PrintLast
section
variable {P : Program} {ops : Array Oper} {Q : Exit → Act → World → Prop} {md : Region.Mode} {S : World → Prop} {ds : List Nat} {T : Bool × List (List Nat × List Nat)}
end
end Go.Proofs.YtnompdckpenfgaaW.PrintLast

-- Laid by this seat's own program (wip/tools/wprune.py) out of the words of the kit's print: what the claim's texts name.
import Derived.Test.YtnompdckpenfgaaWWords
import Derived.Laws.StructEq
/-! ### 53. '==' of structs as_ one Bool -/
namespace Go.Proofs.YtnompdckpenfgaaW.PrintWords
open Go.RowKit
section
variable {P : Program} {d : Nat} {xs ys : Array Value} {f : Field} {fs : List Field} {a b : Value} {r s : Bool} {w : World}
end
end Go.Proofs.YtnompdckpenfgaaW.PrintWords

import Derived.Test.YtmhlellhfepkkaaLp
import Derived.Test.YtmhlellhfepkkaaVo
import Derived.WalkKit
import Derived.KernelRfl
namespace Go.Proofs.Ytmhlellhfepkkaa.OpPa
open Go.RowKit Go.Proofs.Ytmhlellhfepkkaa.PAl Go.Proofs.YtmhlellhfepkkaaW.PrintWords Go.Proofs.Ytmhlellhfepkkaa.Vo
set_option linter.unusedVariables false
set_option linter.unusedSimpArgs false
def good5 (y : Int) : Prop := (Lit.int .u8 y).wf = true
theorem opens5 : Opens Try.prog 5 (Kd.int .u8) good5 := opens_int Try.underlying5
def good25 (y : (List Int)) : Prop := (y.length ≤ maxLen ∧ ∀ z ∈ y, good5 z)
theorem opens25 : Opens Try.prog 25 (Kd.slice 5 (Kd.int .u8)) good25 := opens_slice Try.underlying25 (by kernel_rfl) opens5
def vireolaw26_FdtParses.Pure2 : Prop := ∀ (b0 : (List Int)), good25 b0 → ∃ k, vireolaw26_FdtParses.f k b0 = some true
end Go.Proofs.Ytmhlellhfepkkaa.OpPa

import Derived.Test.YtlhdildnekllhaaPMkx1
import Derived.Test.YtlhdildnekllhaaVo
import Derived.WalkKit
import Derived.KernelRfl
namespace Go.Proofs.Ytlhdildnekllhaa.OpMk
open Go.RowKit Go.Proofs.Ytlhdildnekllhaa.PMk Go.Proofs.YtlhdildnekllhaaW.PrintWords Go.Proofs.Ytlhdildnekllhaa.Vo Go.Proofs.Ytlhdildnekllhaa.PAl
set_option linter.unusedVariables false
set_option linter.unusedSimpArgs false
def good23 (y : Int) : Prop := (Lit.int .u64 y).wf = true
theorem opens23 : Opens Try.prog 23 (Kd.int .u64) good23 := opens_int Try.underlying23
def good4 (y : Bool) : Prop := True
theorem opens4 : Opens Try.prog 4 Kd.bool good4 := opens_bool Try.underlying4
def vireolaw10_Sv39Makes.Pure2 : Prop := ∀ (b0 : Int) (b1 : Bool), good23 b0 → good4 b1 → vireolaw10_Sv39Makes.f b0 b1 = some true
end Go.Proofs.Ytlhdildnekllhaa.OpMk

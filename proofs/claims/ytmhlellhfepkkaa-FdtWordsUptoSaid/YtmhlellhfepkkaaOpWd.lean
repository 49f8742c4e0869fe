import Derived.Test.YtmhlellhfepkkaaLb
import Derived.Test.YtmhlellhfepkkaaVo
import Derived.WalkKit
import Derived.KernelRfl
namespace Go.Proofs.Ytmhlellhfepkkaa.OpWd
open Go.RowKit Go.Proofs.Ytmhlellhfepkkaa.PAl Go.Proofs.YtmhlellhfepkkaaW.PrintWords Go.Proofs.Ytmhlellhfepkkaa.Vo
set_option linter.unusedVariables false
set_option linter.unusedSimpArgs false
def good41 (y : Int) : Prop := (Lit.int .u32 y).wf = true
theorem opens41 : Opens Try.prog 41 (Kd.int .u32) good41 := opens_int Try.underlying41
def good37 (y : (List Int)) : Prop := (y.length ≤ maxLen ∧ ∀ z ∈ y, good41 z)
theorem opens37 : Opens Try.prog 37 (Kd.slice 41 (Kd.int .u32)) good37 := opens_slice Try.underlying37 (by kernel_rfl) opens41
def good9 (y : ByteArray) : Prop := y.size ≤ maxLen
theorem opens9 : Opens Try.prog 9 Kd.string good9 := opens_string Try.underlying9
def good38 (y : (List ByteArray)) : Prop := (y.length ≤ maxLen ∧ ∀ z ∈ y, good9 z)
theorem opens38 : Opens Try.prog 38 (Kd.slice 9 Kd.string) good38 := opens_slice Try.underlying38 (by kernel_rfl) opens9
def good39 (y : Int) : Prop := (Lit.int .u64 y).wf = true
theorem opens39 : Opens Try.prog 39 (Kd.int .u64) good39 := opens_int Try.underlying39
def vireolaw26_FdtWords.Pure2 : Prop := ∀ (b0 : (List Int)) (b1 : (List ByteArray)) (b2 : Int), good37 b0 → good38 b1 → good39 b2 → ∃ k, vireolaw26_FdtWords.f k b0 b1 b2 = some true
end Go.Proofs.Ytmhlellhfepkkaa.OpWd

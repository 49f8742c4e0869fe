/- Sv39Makes: words of entries and of the register are what the page says, for every page and right; no condition. -/
import Derived.Test.YtlhdildnekllhaaPMkx1
import Derived.Test.YtlhdildnekllhaaOpMk
namespace Go.Proofs.Ytlhdildnekllhaa.PureSv39Makes
open Go.RowKit Go.Proofs.Ytlhdildnekllhaa.PMk Go.Proofs.YtlhdildnekllhaaW.PrintWords Go.Proofs.YtlhdildnekllhaaW.PrintLast
open Go.Proofs.Ytlhdildnekllhaa.Vw Go.Proofs.Ytlhdildnekllhaa.Pure Go.Proofs.Ytlhdildnekllhaa.H Go.Proofs.Ytlhdildnekllhaa.PAl Go.Proofs.Ytlhdildnekllhaa.OpMk
set_option linter.unusedVariables false
set_option linter.unusedSimpArgs false

theorem Sv39Makes : vireolaw10_Sv39Makes.Pure2 := by
  intro b0 b1 h0 h1
  have hv0 : decide (0 ≤ b0 ∧ b0 < 18446744073709551616) = true := by
    obtain ⟨x, ex, hx⟩ := u64_of_wf h0
    exact decide_eq_true (by rw [ex]; omega)
  unfold vireolaw10_Sv39Makes.f
  exact if_pos hv0
end Go.Proofs.Ytlhdildnekllhaa.PureSv39Makes
namespace Go.Proofs.Ytlhdildnekllhaa.Pure
theorem Sv39Makes : OpMk.vireolaw10_Sv39Makes.Pure2 := PureSv39Makes.Sv39Makes
end Go.Proofs.Ytlhdildnekllhaa.Pure

/- Sv39Ways: how an access is made as a program runs, and whether by addresses as they are, is what the reference says, for every start, kind and address; no condition. -/
import Derived.Test.YtlhdildnekllhaaPWyx1
import Derived.Test.YtlhdildnekllhaaOpWy
namespace Go.Proofs.Ytlhdildnekllhaa.PureSv39Ways
open Go.RowKit Go.Proofs.Ytlhdildnekllhaa.PWy Go.Proofs.YtlhdildnekllhaaW.PrintWords Go.Proofs.YtlhdildnekllhaaW.PrintLast
open Go.Proofs.Ytlhdildnekllhaa.Vw Go.Proofs.Ytlhdildnekllhaa.Pure Go.Proofs.Ytlhdildnekllhaa.H Go.Proofs.Ytlhdildnekllhaa.PAl Go.Proofs.Ytlhdildnekllhaa.OpWy
set_option linter.unusedVariables false
set_option linter.unusedSimpArgs false

theorem Sv39Ways : vireolaw10_Sv39Ways.Pure2 := by
  intro b0 b1 b2 h0 h1 h2
  obtain ⟨g0, ⟨hl, hz⟩, g2⟩ := h0
  have hf : fineS b0.f1 b0.f2 = true := by
    unfold fineS
    rw [Bool.and_eq_true, List.all_eq_true]
    refine ⟨fun y hy => ?_, ?_⟩
    · obtain ⟨x, ex, hx⟩ := u64_of_wf (hz y hy).2
      exact decide_eq_true (by rw [ex]; omega)
    · obtain ⟨x, ex, hx⟩ := u64_of_wf g2
      exact decide_eq_true (by rw [ex]; omega)
  have hv2 : decide (0 ≤ b2 ∧ b2 < 18446744073709551616) = true := by
    obtain ⟨x, ex, hx⟩ := u64_of_wf h2
    exact decide_eq_true (by rw [ex]; omega)
  unfold vireolaw10_Sv39Ways.f
  exact if_pos (by rw [hf, hv2]; rfl)
end Go.Proofs.Ytlhdildnekllhaa.PureSv39Ways
namespace Go.Proofs.Ytlhdildnekllhaa.Pure
theorem Sv39Ways : OpWy.vireolaw10_Sv39Ways.Pure2 := PureSv39Ways.Sv39Ways
end Go.Proofs.Ytlhdildnekllhaa.Pure

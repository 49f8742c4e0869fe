/- CsrTwice: written twice a register is as once, and what is read, written again, changes nothing of it, for every start, register and word; no condition. -/
import Derived.Test.YtkbnoeebnmphbaaPTwx1
import Derived.Test.YtkbnoeebnmphbaaOpTw
namespace Go.Proofs.Ytkbnoeebnmphbaa.PureCsrTwice
open Go.RowKit Go.Proofs.Ytkbnoeebnmphbaa.PTw Go.Proofs.YtkbnoeebnmphbaaW.PrintWords Go.Proofs.YtkbnoeebnmphbaaW.PrintLast
open Go.Proofs.Ytkbnoeebnmphbaa.Vw Go.Proofs.Ytkbnoeebnmphbaa.Pure Go.Proofs.Ytkbnoeebnmphbaa.H Go.Proofs.Ytkbnoeebnmphbaa.PAl Go.Proofs.Ytkbnoeebnmphbaa.OpTw
set_option linter.unusedVariables false
set_option linter.unusedSimpArgs false

theorem CsrTwice : vireolaw08_CsrTwice.Pure2 := by
  intro b0 b1 b2 h0 h1 h2
  obtain ⟨g0, ⟨hl, hz⟩, g2⟩ := h0
  have hf : fineS b0.f1 b0.f2 = true := by
    unfold fineS
    rw [Bool.and_eq_true, List.all_eq_true]
    refine ⟨fun y hy => ?_, ?_⟩
    · obtain ⟨x, ex, hx⟩ := u64_of_wf (hz y hy).2
      exact decide_eq_true (by rw [ex]; omega)
    · obtain ⟨x, ex, hx⟩ := u64_of_wf g2
      exact decide_eq_true (by rw [ex]; omega)
  have hv : decide (0 ≤ b2 ∧ b2 < 18446744073709551616) = true := by
    obtain ⟨x, ex, hx⟩ := u64_of_wf h2
    exact decide_eq_true (by rw [ex]; omega)
  unfold vireolaw08_CsrTwice.f
  exact if_pos (Bool.and_eq_true_iff.2 ⟨hf, hv⟩)
end Go.Proofs.Ytkbnoeebnmphbaa.PureCsrTwice
namespace Go.Proofs.Ytkbnoeebnmphbaa.Pure
theorem CsrTwice : OpTw.vireolaw08_CsrTwice.Pure2 := PureCsrTwice.CsrTwice
end Go.Proofs.Ytkbnoeebnmphbaa.Pure

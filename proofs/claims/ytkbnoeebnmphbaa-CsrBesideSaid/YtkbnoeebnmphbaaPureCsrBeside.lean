/- CsrBeside: a register that is written changes no other that is read, for every start, pair of places and word; no condition. -/
import Derived.Test.YtkbnoeebnmphbaaPBex1
import Derived.Test.YtkbnoeebnmphbaaOpBe
namespace Go.Proofs.Ytkbnoeebnmphbaa.PureCsrBeside
open Go.RowKit Go.Proofs.Ytkbnoeebnmphbaa.PBe Go.Proofs.YtkbnoeebnmphbaaW.PrintWords Go.Proofs.YtkbnoeebnmphbaaW.PrintLast
open Go.Proofs.Ytkbnoeebnmphbaa.Vw Go.Proofs.Ytkbnoeebnmphbaa.Pure Go.Proofs.Ytkbnoeebnmphbaa.H Go.Proofs.Ytkbnoeebnmphbaa.PAl Go.Proofs.Ytkbnoeebnmphbaa.OpBe
set_option linter.unusedVariables false
set_option linter.unusedSimpArgs false

theorem CsrBeside : vireolaw08_CsrBeside.Pure2 := by
  intro b0 b1 b2 h0 h1 h2
  obtain ⟨g0, ⟨hl, hz⟩, g2⟩ := h0
  have hf : fineS b0.f1 b0.f2 = true := by
    unfold fineS
    rw [Bool.and_eq_true, List.all_eq_true]
    refine ⟨fun y hy => ?_, ?_⟩
    · obtain ⟨x, ex, hx⟩ := u64_of_wf (hz y hy).2
      exact decide_eq_true (by rw [ex]; omega)
    · obtain ⟨x, ex, hx⟩ := u64_of_wf g2
      exact decide_eq_true (by rw [ex]; omega)
  have hv : decide (0 ≤ b2 ∧ b2 < 18446744073709551616) = true := by
    obtain ⟨x, ex, hx⟩ := u64_of_wf h2
    exact decide_eq_true (by rw [ex]; omega)
  unfold vireolaw08_CsrBeside.f
  exact if_pos (Bool.and_eq_true_iff.2 ⟨hf, hv⟩)
end Go.Proofs.Ytkbnoeebnmphbaa.PureCsrBeside
namespace Go.Proofs.Ytkbnoeebnmphbaa.Pure
theorem CsrBeside : OpBe.vireolaw08_CsrBeside.Pure2 := PureCsrBeside.CsrBeside
end Go.Proofs.Ytkbnoeebnmphbaa.Pure

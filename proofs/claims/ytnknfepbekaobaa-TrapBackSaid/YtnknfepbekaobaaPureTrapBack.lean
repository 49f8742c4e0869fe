/- TrapBack: behind a trap and the way back the mode, the permissions of interrupts and the place are as they were, for every start, trap and place; no condition. -/
import Derived.Test.YtnknfepbekaobaaPBax1
import Derived.Test.YtnknfepbekaobaaOpBa
namespace Go.Proofs.Ytnknfepbekaobaa.PureTrapBack
open Go.RowKit Go.Proofs.Ytnknfepbekaobaa.PBa Go.Proofs.YtnknfepbekaobaaW.PrintWords Go.Proofs.YtnknfepbekaobaaW.PrintLast
open Go.Proofs.Ytnknfepbekaobaa.Vw Go.Proofs.Ytnknfepbekaobaa.Pure Go.Proofs.Ytnknfepbekaobaa.H Go.Proofs.Ytnknfepbekaobaa.PAl Go.Proofs.Ytnknfepbekaobaa.OpBa
set_option linter.unusedVariables false
set_option linter.unusedSimpArgs false

theorem TrapBack : vireolaw09_TrapBack.Pure2 := by
  intro b0 b1 b2 h0 h1 h2
  obtain ⟨g0, ⟨hl, hz⟩, g2⟩ := h0
  have hf : fineS b0.f1 b0.f2 = true := by
    unfold fineS
    rw [Bool.and_eq_true, List.all_eq_true]
    refine ⟨fun y hy => ?_, ?_⟩
    · obtain ⟨x, ex, hx⟩ := u64_of_wf (hz y hy).2
      exact decide_eq_true (by rw [ex]; omega)
    · obtain ⟨x, ex, hx⟩ := u64_of_wf g2
      exact decide_eq_true (by rw [ex]; omega)
  have hv1 : decide (0 ≤ b1.f1 ∧ b1.f1 < 18446744073709551616) = true := by
    obtain ⟨x, ex, hx⟩ := u64_of_wf h1.2.1
    exact decide_eq_true (by rw [ex]; omega)
  have hv2 : decide (0 ≤ b2 ∧ b2 < 18446744073709551616) = true := by
    obtain ⟨x, ex, hx⟩ := u64_of_wf h2
    exact decide_eq_true (by rw [ex]; omega)
  unfold vireolaw09_TrapBack.f
  exact if_pos (Bool.and_eq_true_iff.2 ⟨Bool.and_eq_true_iff.2 ⟨hf, hv1⟩, hv2⟩)
end Go.Proofs.Ytnknfepbekaobaa.PureTrapBack
namespace Go.Proofs.Ytnknfepbekaobaa.Pure
theorem TrapBack : OpBa.vireolaw09_TrapBack.Pure2 := PureTrapBack.TrapBack
end Go.Proofs.Ytnknfepbekaobaa.Pure

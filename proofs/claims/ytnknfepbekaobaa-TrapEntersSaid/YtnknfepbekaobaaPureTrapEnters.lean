/- TrapEnters: any trap in any state is taken by the one that should, and leaves all as the reference says, for every start, trap and place; no condition. -/
import Derived.Test.YtnknfepbekaobaaPEnx1
import Derived.Test.YtnknfepbekaobaaOpEn
namespace Go.Proofs.Ytnknfepbekaobaa.PureTrapEnters
open Go.RowKit Go.Proofs.Ytnknfepbekaobaa.PEn Go.Proofs.YtnknfepbekaobaaW.PrintWords Go.Proofs.YtnknfepbekaobaaW.PrintLast
open Go.Proofs.Ytnknfepbekaobaa.Vw Go.Proofs.Ytnknfepbekaobaa.Pure Go.Proofs.Ytnknfepbekaobaa.H Go.Proofs.Ytnknfepbekaobaa.PAl Go.Proofs.Ytnknfepbekaobaa.OpEn
set_option linter.unusedVariables false
set_option linter.unusedSimpArgs false

theorem TrapEnters : vireolaw09_TrapEnters.Pure2 := by
  intro b0 b1 b2 h0 h1 h2
  obtain ⟨g0, ⟨hl, hz⟩, g2⟩ := h0
  have hf : fineS b0.f1 b0.f2 = true := by
    unfold fineS
    rw [Bool.and_eq_true, List.all_eq_true]
    refine ⟨fun y hy => ?_, ?_⟩
    · obtain ⟨x, ex, hx⟩ := u64_of_wf (hz y hy).2
      exact decide_eq_true (by rw [ex]; omega)
    · obtain ⟨x, ex, hx⟩ := u64_of_wf g2
      exact decide_eq_true (by rw [ex]; omega)
  have hv1 : decide (0 ≤ b1.f1 ∧ b1.f1 < 18446744073709551616) = true := by
    obtain ⟨x, ex, hx⟩ := u64_of_wf h1.2.1
    exact decide_eq_true (by rw [ex]; omega)
  have hv2 : decide (0 ≤ b2 ∧ b2 < 18446744073709551616) = true := by
    obtain ⟨x, ex, hx⟩ := u64_of_wf h2
    exact decide_eq_true (by rw [ex]; omega)
  unfold vireolaw09_TrapEnters.f
  exact if_pos (Bool.and_eq_true_iff.2 ⟨Bool.and_eq_true_iff.2 ⟨hf, hv1⟩, hv2⟩)
end Go.Proofs.Ytnknfepbekaobaa.PureTrapEnters
namespace Go.Proofs.Ytnknfepbekaobaa.Pure
theorem TrapEnters : OpEn.vireolaw09_TrapEnters.Pure2 := PureTrapEnters.TrapEnters
end Go.Proofs.Ytnknfepbekaobaa.Pure

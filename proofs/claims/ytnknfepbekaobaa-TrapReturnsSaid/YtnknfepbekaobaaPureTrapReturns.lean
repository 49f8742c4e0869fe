/- TrapReturns: the ways back lead where the reference says, and leave all as it says, or may not be, for every start and way; no condition. -/
import Derived.Test.YtnknfepbekaobaaPRex1
import Derived.Test.YtnknfepbekaobaaOpRe
namespace Go.Proofs.Ytnknfepbekaobaa.PureTrapReturns
open Go.RowKit Go.Proofs.Ytnknfepbekaobaa.PRe Go.Proofs.YtnknfepbekaobaaW.PrintWords Go.Proofs.YtnknfepbekaobaaW.PrintLast
open Go.Proofs.Ytnknfepbekaobaa.Vw Go.Proofs.Ytnknfepbekaobaa.Pure Go.Proofs.Ytnknfepbekaobaa.H Go.Proofs.Ytnknfepbekaobaa.PAl Go.Proofs.Ytnknfepbekaobaa.OpRe
set_option linter.unusedVariables false
set_option linter.unusedSimpArgs false

theorem TrapReturns : vireolaw09_TrapReturns.Pure2 := by
  intro b0 b1 h0 h1
  obtain ⟨g0, ⟨hl, hz⟩, g2⟩ := h0
  have hf : fineS b0.f1 b0.f2 = true := by
    unfold fineS
    rw [Bool.and_eq_true, List.all_eq_true]
    refine ⟨fun y hy => ?_, ?_⟩
    · obtain ⟨x, ex, hx⟩ := u64_of_wf (hz y hy).2
      exact decide_eq_true (by rw [ex]; omega)
    · obtain ⟨x, ex, hx⟩ := u64_of_wf g2
      exact decide_eq_true (by rw [ex]; omega)
  unfold vireolaw09_TrapReturns.f
  exact if_pos (hf)
end Go.Proofs.Ytnknfepbekaobaa.PureTrapReturns
namespace Go.Proofs.Ytnknfepbekaobaa.Pure
theorem TrapReturns : OpRe.vireolaw09_TrapReturns.Pure2 := PureTrapReturns.TrapReturns
end Go.Proofs.Ytnknfepbekaobaa.Pure

/- TrapMasks: no interrupt is taken that is not pending or not allowed, and behind a trap none of the same sort is taken at once, for every start; no condition. -/
import Derived.Test.YtnknfepbekaobaaPMax1
import Derived.Test.YtnknfepbekaobaaOpMa
namespace Go.Proofs.Ytnknfepbekaobaa.PureTrapMasks
open Go.RowKit Go.Proofs.Ytnknfepbekaobaa.PMa Go.Proofs.YtnknfepbekaobaaW.PrintWords Go.Proofs.YtnknfepbekaobaaW.PrintLast
open Go.Proofs.Ytnknfepbekaobaa.Vw Go.Proofs.Ytnknfepbekaobaa.Pure Go.Proofs.Ytnknfepbekaobaa.H Go.Proofs.Ytnknfepbekaobaa.PAl Go.Proofs.Ytnknfepbekaobaa.OpMa
set_option linter.unusedVariables false
set_option linter.unusedSimpArgs false

theorem TrapMasks : vireolaw09_TrapMasks.Pure2 := by
  intro b0 h0
  obtain ⟨g0, ⟨hl, hz⟩, g2⟩ := h0
  have hf : fineS b0.f1 b0.f2 = true := by
    unfold fineS
    rw [Bool.and_eq_true, List.all_eq_true]
    refine ⟨fun y hy => ?_, ?_⟩
    · obtain ⟨x, ex, hx⟩ := u64_of_wf (hz y hy).2
      exact decide_eq_true (by rw [ex]; omega)
    · obtain ⟨x, ex, hx⟩ := u64_of_wf g2
      exact decide_eq_true (by rw [ex]; omega)
  unfold vireolaw09_TrapMasks.f
  exact if_pos (hf)
end Go.Proofs.Ytnknfepbekaobaa.PureTrapMasks
namespace Go.Proofs.Ytnknfepbekaobaa.Pure
theorem TrapMasks : OpMa.vireolaw09_TrapMasks.Pure2 := PureTrapMasks.TrapMasks
end Go.Proofs.Ytnknfepbekaobaa.Pure

/- TrapNext: which interrupt is to be taken in any state is what the reference says, and asking changes nothing, for every start; no condition. -/
import Derived.Test.YtnknfepbekaobaaPNex1
import Derived.Test.YtnknfepbekaobaaOpNe
namespace Go.Proofs.Ytnknfepbekaobaa.PureTrapNext
open Go.RowKit Go.Proofs.Ytnknfepbekaobaa.PNe Go.Proofs.YtnknfepbekaobaaW.PrintWords Go.Proofs.YtnknfepbekaobaaW.PrintLast
open Go.Proofs.Ytnknfepbekaobaa.Vw Go.Proofs.Ytnknfepbekaobaa.Pure Go.Proofs.Ytnknfepbekaobaa.H Go.Proofs.Ytnknfepbekaobaa.PAl Go.Proofs.Ytnknfepbekaobaa.OpNe
set_option linter.unusedVariables false
set_option linter.unusedSimpArgs false

theorem TrapNext : vireolaw09_TrapNext.Pure2 := by
  intro b0 h0
  obtain ⟨g0, ⟨hl, hz⟩, g2⟩ := h0
  have hf : fineS b0.f1 b0.f2 = true := by
    unfold fineS
    rw [Bool.and_eq_true, List.all_eq_true]
    refine ⟨fun y hy => ?_, ?_⟩
    · obtain ⟨x, ex, hx⟩ := u64_of_wf (hz y hy).2
      exact decide_eq_true (by rw [ex]; omega)
    · obtain ⟨x, ex, hx⟩ := u64_of_wf g2
      exact decide_eq_true (by rw [ex]; omega)
  unfold vireolaw09_TrapNext.f
  exact if_pos (hf)
end Go.Proofs.Ytnknfepbekaobaa.PureTrapNext
namespace Go.Proofs.Ytnknfepbekaobaa.Pure
theorem TrapNext : OpNe.vireolaw09_TrapNext.Pure2 := PureTrapNext.TrapNext
end Go.Proofs.Ytnknfepbekaobaa.Pure

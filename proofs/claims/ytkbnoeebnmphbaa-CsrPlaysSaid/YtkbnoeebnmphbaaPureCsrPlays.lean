/- CsrPlays: any writes of any registers, in any order, leave what is kept as the reference says, for every start; no condition. -/
import Derived.Test.YtkbnoeebnmphbaaPAlx1
import Derived.Test.YtkbnoeebnmphbaaOpAl
namespace Go.Proofs.Ytkbnoeebnmphbaa.PureCsrPlays
open Go.RowKit Go.Proofs.Ytkbnoeebnmphbaa.PAl Go.Proofs.YtkbnoeebnmphbaaW.PrintWords Go.Proofs.YtkbnoeebnmphbaaW.PrintLast
open Go.Proofs.Ytkbnoeebnmphbaa.Vw Go.Proofs.Ytkbnoeebnmphbaa.Pure Go.Proofs.Ytkbnoeebnmphbaa.H Go.Proofs.Ytkbnoeebnmphbaa.OpAl
set_option linter.unusedVariables false
set_option linter.unusedSimpArgs false

theorem CsrPlays : vireolaw08_CsrPlays.Pure2 := by
  intro b0 h0
  obtain ⟨g0, ⟨hl, hz⟩, g2⟩ := h0
  have hf : fineS b0.f1 b0.f2 = true := by
    unfold fineS
    rw [Bool.and_eq_true, List.all_eq_true]
    refine ⟨fun y hy => ?_, ?_⟩
    · obtain ⟨x, ex, hx⟩ := u64_of_wf (hz y hy).2
      exact decide_eq_true (by rw [ex]; omega)
    · obtain ⟨x, ex, hx⟩ := u64_of_wf g2
      exact decide_eq_true (by rw [ex]; omega)
  unfold vireolaw08_CsrPlays.f
  rw [if_pos hf]
end Go.Proofs.Ytkbnoeebnmphbaa.PureCsrPlays
namespace Go.Proofs.Ytkbnoeebnmphbaa.Pure
theorem CsrPlays : OpAl.vireolaw08_CsrPlays.Pure2 := PureCsrPlays.CsrPlays
end Go.Proofs.Ytkbnoeebnmphbaa.Pure

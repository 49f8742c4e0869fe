/- CsrMay: who may reach a register is as the reference says, for every start, number and kind of access; no condition. -/
import Derived.Test.YtkbnoeebnmphbaaPMyx1
import Derived.Test.YtkbnoeebnmphbaaOpMy
namespace Go.Proofs.Ytkbnoeebnmphbaa.PureCsrMay
open Go.RowKit Go.Proofs.Ytkbnoeebnmphbaa.PMy Go.Proofs.YtkbnoeebnmphbaaW.PrintWords Go.Proofs.YtkbnoeebnmphbaaW.PrintLast
open Go.Proofs.Ytkbnoeebnmphbaa.Vw Go.Proofs.Ytkbnoeebnmphbaa.Pure Go.Proofs.Ytkbnoeebnmphbaa.H Go.Proofs.Ytkbnoeebnmphbaa.PAl Go.Proofs.Ytkbnoeebnmphbaa.OpMy
set_option linter.unusedVariables false
set_option linter.unusedSimpArgs false

theorem CsrMay : vireolaw08_CsrMay.Pure2 := by
  intro b0 b1 b2 h0 h1 h2
  obtain ⟨g0, ⟨hl, hz⟩, g2⟩ := h0
  have hf : fineS b0.f1 b0.f2 = true := by
    unfold fineS
    rw [Bool.and_eq_true, List.all_eq_true]
    refine ⟨fun y hy => ?_, ?_⟩
    · obtain ⟨x, ex, hx⟩ := u64_of_wf (hz y hy).2
      exact decide_eq_true (by rw [ex]; omega)
    · obtain ⟨x, ex, hx⟩ := u64_of_wf g2
      exact decide_eq_true (by rw [ex]; omega)
  unfold vireolaw08_CsrMay.f
  rw [if_pos hf]
end Go.Proofs.Ytkbnoeebnmphbaa.PureCsrMay
namespace Go.Proofs.Ytkbnoeebnmphbaa.Pure
theorem CsrMay : OpMy.vireolaw08_CsrMay.Pure2 := PureCsrMay.CsrMay
end Go.Proofs.Ytkbnoeebnmphbaa.Pure

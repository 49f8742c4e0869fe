/- CsrBits: any bit of the status is set and told, and what the processor was is kept and told, for every start, bit and kind; no condition. -/
import Derived.Test.YtkbnoeebnmphbaaPBix1
import Derived.Test.YtkbnoeebnmphbaaOpBi
namespace Go.Proofs.Ytkbnoeebnmphbaa.PureCsrBits
open Go.RowKit Go.Proofs.Ytkbnoeebnmphbaa.PBi Go.Proofs.YtkbnoeebnmphbaaW.PrintWords Go.Proofs.YtkbnoeebnmphbaaW.PrintLast
open Go.Proofs.Ytkbnoeebnmphbaa.Vw Go.Proofs.Ytkbnoeebnmphbaa.Pure Go.Proofs.Ytkbnoeebnmphbaa.H Go.Proofs.Ytkbnoeebnmphbaa.PAl Go.Proofs.Ytkbnoeebnmphbaa.OpBi
set_option linter.unusedVariables false
set_option linter.unusedSimpArgs false

theorem CsrBits : vireolaw08_CsrBits.Pure2 := by
  intro b0 b1 b2 h0 h1 h2
  obtain ⟨g0, ⟨hl, hz⟩, g2⟩ := h0
  have hf : fineS b0.f1 b0.f2 = true := by
    unfold fineS
    rw [Bool.and_eq_true, List.all_eq_true]
    refine ⟨fun y hy => ?_, ?_⟩
    · obtain ⟨x, ex, hx⟩ := u64_of_wf (hz y hy).2
      exact decide_eq_true (by rw [ex]; omega)
    · obtain ⟨x, ex, hx⟩ := u64_of_wf g2
      exact decide_eq_true (by rw [ex]; omega)
  unfold vireolaw08_CsrBits.f
  rw [if_pos hf]
end Go.Proofs.Ytkbnoeebnmphbaa.PureCsrBits
namespace Go.Proofs.Ytkbnoeebnmphbaa.Pure
theorem CsrBits : OpBi.vireolaw08_CsrBits.Pure2 := PureCsrBits.CsrBits
end Go.Proofs.Ytkbnoeebnmphbaa.Pure

/- TrapAsks: who may wait and fence, and the causes of calls and faults, are what the reference says, for every start, kind and page; no condition. -/
import Derived.Test.YtnknfepbekaobaaPAsx1
import Derived.Test.YtnknfepbekaobaaOpAs
namespace Go.Proofs.Ytnknfepbekaobaa.PureTrapAsks
open Go.RowKit Go.Proofs.Ytnknfepbekaobaa.PAs Go.Proofs.YtnknfepbekaobaaW.PrintWords Go.Proofs.YtnknfepbekaobaaW.PrintLast
open Go.Proofs.Ytnknfepbekaobaa.Vw Go.Proofs.Ytnknfepbekaobaa.Pure Go.Proofs.Ytnknfepbekaobaa.H Go.Proofs.Ytnknfepbekaobaa.PAl Go.Proofs.Ytnknfepbekaobaa.OpAs
set_option linter.unusedVariables false
set_option linter.unusedSimpArgs false

theorem TrapAsks : vireolaw09_TrapAsks.Pure2 := by
  intro b0 b1 b2 h0 h1 h2
  obtain ⟨g0, ⟨hl, hz⟩, g2⟩ := h0
  have hf : fineS b0.f1 b0.f2 = true := by
    unfold fineS
    rw [Bool.and_eq_true, List.all_eq_true]
    refine ⟨fun y hy => ?_, ?_⟩
    · obtain ⟨x, ex, hx⟩ := u64_of_wf (hz y hy).2
      exact decide_eq_true (by rw [ex]; omega)
    · obtain ⟨x, ex, hx⟩ := u64_of_wf g2
      exact decide_eq_true (by rw [ex]; omega)
  unfold vireolaw09_TrapAsks.f
  exact if_pos (hf)
end Go.Proofs.Ytnknfepbekaobaa.PureTrapAsks
namespace Go.Proofs.Ytnknfepbekaobaa.Pure
theorem TrapAsks : OpAs.vireolaw09_TrapAsks.Pure2 := PureTrapAsks.TrapAsks
end Go.Proofs.Ytnknfepbekaobaa.Pure

/- Sv39Keeps: a walk changes nothing; where it comes to has the lowest twelve bits of the address; a fault tells no address; no condition. -/
import Derived.Test.YtlhdildnekllhaaPKex1
import Derived.Test.YtlhdildnekllhaaOpKe
namespace Go.Proofs.Ytlhdildnekllhaa.PureSv39Keeps
open Go.RowKit Go.Proofs.Ytlhdildnekllhaa.PKe Go.Proofs.YtlhdildnekllhaaW.PrintWords Go.Proofs.YtlhdildnekllhaaW.PrintLast
open Go.Proofs.Ytlhdildnekllhaa.Vw Go.Proofs.Ytlhdildnekllhaa.Pure Go.Proofs.Ytlhdildnekllhaa.H Go.Proofs.Ytlhdildnekllhaa.PAl Go.Proofs.Ytlhdildnekllhaa.OpKe
set_option linter.unusedVariables false
set_option linter.unusedSimpArgs false

theorem Sv39Keeps : vireolaw10_Sv39Keeps.Pure2 := by
  intro b0 b1 b2 h0 h1 h2
  have one : ∀ {x : Int}, (Lit.int .u64 x).wf = true → isU x = true := fun {x} h => by
    obtain ⟨y, ey, hy⟩ := u64_of_wf h
    exact decide_eq_true (by rw [ey]; omega)
  obtain ⟨hl, hz⟩ := h0
  have hf : finePut b0 = true := List.all_eq_true.2 fun y hy => by
    rw [Bool.and_eq_true]; exact ⟨one (hz y hy).1, one (hz y hy).2⟩
  unfold vireolaw10_Sv39Keeps.f
  exact if_pos (by rw [hf, one h1.1, one h2]; rfl)
end Go.Proofs.Ytlhdildnekllhaa.PureSv39Keeps
namespace Go.Proofs.Ytlhdildnekllhaa.Pure
theorem Sv39Keeps : OpKe.vireolaw10_Sv39Keeps.Pure2 := PureSv39Keeps.Sv39Keeps
end Go.Proofs.Ytlhdildnekllhaa.Pure

/- MulHighs: the high half of any product, with signs or without, is what the reference's adding up says, for every two words; no condition. -/
import Derived.Test.YtomomaldkliofaaPAllx4
import Derived.Test.YtomomaldkliofaaS0
namespace Go.Proofs.Ytomomaldkliofaa.PureMulHighs
open Go.RowKit Go.Proofs.Ytomomaldkliofaa.PAll Go.Proofs.YtomomaldkliofaaW.PrintWords Go.Proofs.YtomomaldkliofaaW.PrintLast
open Go.Proofs.Ytomomaldkliofaa.Vw Go.Proofs.Ytomomaldkliofaa.Pure
set_option linter.unusedVariables false
set_option linter.unusedSimpArgs false

theorem awake_is : vireolaw06_awake.f 405 = some true := by decide +kernel
theorem MulHighs : vireolaw06_MulHighs.Pure := by
  intro a0 a1 a2 h0 h1
  obtain ⟨a, rfl, ha⟩ := u64_of_wf h0
  obtain ⟨b, rfl, hb⟩ := u64_of_wf h1
  refine ⟨405, ?_⟩
  unfold vireolaw06_MulHighs.f
  obtain ⟨lo, e2⟩ := vireoref06_Signed_is a b a2 ha hb 405 (by omega)
  rw [awake_is, Option.bind_some, if_pos rfl, mul_High_is a b ha hb, Option.bind_some, vireoref06_Product_is a b ha hb 405 (by omega), Option.bind_some, if_pos rfl, mul_HighSigned_is a b a2 ha hb, Option.bind_some, e2, Option.bind_some, beq_self_eq_true]
end Go.Proofs.Ytomomaldkliofaa.PureMulHighs
namespace Go.Proofs.Ytomomaldkliofaa.Pure
theorem MulHighs : PAll.vireolaw06_MulHighs.Pure := PureMulHighs.MulHighs
end Go.Proofs.Ytomomaldkliofaa.Pure

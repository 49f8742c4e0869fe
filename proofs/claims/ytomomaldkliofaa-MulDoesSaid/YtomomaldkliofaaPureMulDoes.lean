/- MulDoes: any operation of layer 6 on any two words comes to what the reference says, or is none, for every number and every two words; no condition. -/
import Derived.Test.YtomomaldkliofaaPAllx4
import Derived.Test.YtomomaldkliofaaS0
namespace Go.Proofs.Ytomomaldkliofaa.PureMulDoes
open Go.RowKit Go.Proofs.Ytomomaldkliofaa.PAll Go.Proofs.YtomomaldkliofaaW.PrintWords Go.Proofs.YtomomaldkliofaaW.PrintLast
open Go.Proofs.Ytomomaldkliofaa.Vw Go.Proofs.Ytomomaldkliofaa.Pure
set_option linter.unusedVariables false
set_option linter.unusedSimpArgs false

theorem awake_is : vireolaw06_awake.f 405 = some true := by decide +kernel
theorem MulDoes : vireolaw06_MulDoes.Pure := by
  intro a0 a1 a2 h0 h1 h2
  obtain ⟨a, rfl, ha⟩ := u64_of_wf h1
  obtain ⟨b, rfl, hb⟩ := u64_of_wf h2
  refine ⟨405, ?_⟩
  unfold vireolaw06_MulDoes.f
  obtain ⟨x, ok, e1, e2⟩ := Do_same a b ha hb 400 (by omega) a0
  rw [awake_is, Option.bind_some, if_pos rfl, e1, Option.bind_some, e2, Option.bind_some, if_pos rfl, beq_self_eq_true]
end Go.Proofs.Ytomomaldkliofaa.PureMulDoes
namespace Go.Proofs.Ytomomaldkliofaa.Pure
theorem MulDoes : PAll.vireolaw06_MulDoes.Pure := PureMulDoes.MulDoes
end Go.Proofs.Ytomomaldkliofaa.Pure

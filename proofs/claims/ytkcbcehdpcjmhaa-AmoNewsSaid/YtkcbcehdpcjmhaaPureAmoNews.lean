/- AmoNews: what any atomic operation makes of any two words, and what its register gets, is what the reference says, for every number and every two words; no condition. -/
import Derived.Test.YtkcbcehdpcjmhaaPAllx6
import Derived.Test.YtkcbcehdpcjmhaaS0
namespace Go.Proofs.Ytkcbcehdpcjmhaa.PureAmoNews
open Go.RowKit Go.Proofs.Ytkcbcehdpcjmhaa.PAll Go.Proofs.YtkcbcehdpcjmhaaW.PrintWords Go.Proofs.YtkcbcehdpcjmhaaW.PrintLast
open Go.Proofs.Ytkcbcehdpcjmhaa.Vw Go.Proofs.Ytkcbcehdpcjmhaa.Pure
set_option linter.unusedVariables false
set_option linter.unusedSimpArgs false

theorem awake_is : vireolaw07_awake.f 420 = some true := by decide +kernel
theorem AmoNews : vireolaw07_AmoNews.Pure := by
  intro a0 a1 a2 h0 h1 h2
  obtain ⟨a, rfl, ha⟩ := u64_of_wf h1
  obtain ⟨b, rfl, hb⟩ := u64_of_wf h2
  have e1 := amo_New_is a0 a b ha hb (i64_of_wf h0) 419
  have e2 := vireoref07_New_is a0 a b ha hb 419 (by omega)
  refine ⟨420, ?_⟩
  unfold vireolaw07_AmoNews.f
  rw [awake_is, Option.bind_some, if_pos rfl, e1, Option.bind_some, e2, Option.bind_some, if_pos rfl, beq_self_eq_true, if_pos rfl, amo_Old_is a0 a ha, Option.bind_some, vireoref07_Old_is a0 a ha 420 (by omega), Option.bind_some, beq_self_eq_true]
end Go.Proofs.Ytkcbcehdpcjmhaa.PureAmoNews
namespace Go.Proofs.Ytkcbcehdpcjmhaa.Pure
theorem AmoNews : PAll.vireolaw07_AmoNews.Pure := PureAmoNews.AmoNews
end Go.Proofs.Ytkcbcehdpcjmhaa.Pure

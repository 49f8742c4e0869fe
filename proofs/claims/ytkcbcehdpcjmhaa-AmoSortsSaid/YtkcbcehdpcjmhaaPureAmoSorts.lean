/- AmoSorts: of what sort any operation is, is what the reference says, for every number; no condition. -/
import Derived.Test.YtkcbcehdpcjmhaaPAllx8
import Derived.Test.YtkcbcehdpcjmhaaS0
namespace Go.Proofs.Ytkcbcehdpcjmhaa.PureAmoSorts
open Go.RowKit Go.Proofs.Ytkcbcehdpcjmhaa.PAll Go.Proofs.YtkcbcehdpcjmhaaW.PrintWords Go.Proofs.YtkcbcehdpcjmhaaW.PrintLast
open Go.Proofs.Ytkcbcehdpcjmhaa.Vw Go.Proofs.Ytkcbcehdpcjmhaa.Pure
set_option linter.unusedVariables false
set_option linter.unusedSimpArgs false

theorem awake_is : vireolaw07_awake.f 420 = some true := by decide +kernel
theorem AmoSorts : vireolaw07_AmoSorts.Pure := by
  intro a0 h0
  refine ⟨420, ?_⟩
  unfold vireolaw07_AmoSorts.f
  rw [awake_is, Option.bind_some, if_pos rfl, vireoref07_Of_is a0 420 (by omega), Option.bind_some, amo_Wide_is, Option.bind_some]
  have hw : decide (84 ≤ a0 ∧ a0 ≤ 94) = (ofI 0 a0).2 := by
    unfold ofI
    by_cases c1 : 73 + 0 ≤ a0 ∧ a0 ≤ 83
    · rw [if_pos c1, decide_eq_false (by omega)]
    · rw [if_neg c1]
      by_cases c2 : 84 + 0 ≤ a0 ∧ a0 ≤ 94
      · rw [if_pos c2, decide_eq_true (by omega)]
      · rw [if_neg c2, decide_eq_false (by omega)]
  have hr : amo_Reserves.f a0 = some ((ofI 0 a0).1 == 0) := by
    unfold amo_Reserves.f ofI
    by_cases e1 : a0 = 73
    · subst e1; rfl
    · by_cases e2 : a0 = 84
      · subst e2; rfl
      · rw [if_neg e1, beq_eq_false_iff_ne.mpr e2]
        congr 1
        symm
        rw [beq_eq_false_iff_ne]
        split
        · show a0 - 73 ≠ 0; omega
        · split
          · show a0 - 84 ≠ 0; omega
          · decide
  have hc : amo_Conditional.f a0 = some ((ofI 0 a0).1 == 1) := by
    unfold amo_Conditional.f ofI
    by_cases e1 : a0 = 74
    · subst e1; rfl
    · by_cases e2 : a0 = 85
      · subst e2; rfl
      · rw [if_neg e1, beq_eq_false_iff_ne.mpr e2]
        congr 1
        symm
        rw [beq_eq_false_iff_ne]
        split
        · show a0 - 73 ≠ 1; omega
        · split
          · show a0 - 84 ≠ 1; omega
          · decide
  rw [hw, beq_self_eq_true, if_pos rfl, hr, Option.bind_some, beq_self_eq_true, if_pos rfl, hc, Option.bind_some, beq_self_eq_true]
end Go.Proofs.Ytkcbcehdpcjmhaa.PureAmoSorts
namespace Go.Proofs.Ytkcbcehdpcjmhaa.Pure
theorem AmoSorts : PAll.vireolaw07_AmoSorts.Pure := PureAmoSorts.AmoSorts
end Go.Proofs.Ytkcbcehdpcjmhaa.Pure

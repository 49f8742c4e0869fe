/- AmoHalves: an operation on halves hangs on these alone, and tells no more than 32 bits, for every number and every two words; no condition. -/
import Derived.Test.YtkcbcehdpcjmhaaPAllx7
import Derived.Test.YtkcbcehdpcjmhaaS0
namespace Go.Proofs.Ytkcbcehdpcjmhaa.PureAmoHalves
open Go.RowKit Go.Proofs.Ytkcbcehdpcjmhaa.PAll Go.Proofs.YtkcbcehdpcjmhaaW.PrintWords Go.Proofs.YtkcbcehdpcjmhaaW.PrintLast
open Go.Proofs.Ytkcbcehdpcjmhaa.Vw Go.Proofs.Ytkcbcehdpcjmhaa.Pure
set_option linter.unusedVariables false
set_option linter.unusedSimpArgs false

theorem awake_is : vireolaw07_awake.f 420 = some true := by decide +kernel
theorem uW_small (x : Nat) : uW false x < 4294967296 := Nat.mod_lt _ (by decide)
theorem new_small (c : Int) (A B : Nat) : (newR (newW c false A B)).1 < 4294967296 := by
  have h : ∀ x : Nat, (newR (some (uW false x))).1 < 4294967296 := fun x => by have := uW_small x; show ((uW false x : Nat) : Int) < _; omega
  unfold newW
  split
  · exact h _
  split
  · exact h _
  split
  · exact h _
  split
  · exact h _
  split
  · exact h _
  split
  · exact h _
  split
  · exact h _
  split
  · exact h _
  split
  · exact h _
  · show (0 : Int) < 4294967296; decide
theorem AmoHalves : vireolaw07_AmoHalves.Pure := by
  intro a0 a1 a2 h0 h1 h2
  obtain ⟨a, rfl, ha⟩ := u64_of_wf h1
  obtain ⟨b, rfl, hb⟩ := u64_of_wf h2
  refine ⟨420, ?_⟩
  unfold vireolaw07_AmoHalves.f
  rw [awake_is, Option.bind_some, if_pos rfl, amo_Wide_is, Option.bind_some]
  by_cases c : 84 ≤ a0 ∧ a0 ≤ 94
  · rw [decide_eq_true c, if_pos rfl]
  · have e1 := amo_New_is a0 a b ha hb (i64_of_wf h0) 419
    have e2 := amo_New_is a0 (a % 4294967296) (b % 4294967296) (by omega) (by omega) (i64_of_wf h0) 419
    have e3 := amo_Old_is a0 a ha
    have e4 := amo_Old_is a0 (a % 4294967296) (by omega)
    have s1 : sextW (a % 4294967296) 32 = sextW a 32 := sext32_low (by omega)
    have s2 : sextW (b % 4294967296) 32 = sextW b 32 := sext32_low (by omega)
    have hs := new_small (a0 - 73) (sextW a 32) (sextW b 32)
    simp only [c, decide_false, if_false, s1, s2] at e1 e2 e3 e4
    rw [decide_eq_false c, if_neg (show ¬ (false = true) by decide), tm32, tm32, e1, Option.bind_some, e2, Option.bind_some, beq_self_eq_true, if_pos rfl, if_pos rfl, if_pos hs, e3, Option.bind_some, e4, Option.bind_some, beq_self_eq_true]
end Go.Proofs.Ytkcbcehdpcjmhaa.PureAmoHalves
namespace Go.Proofs.Ytkcbcehdpcjmhaa.Pure
theorem AmoHalves : PAll.vireolaw07_AmoHalves.Pure := PureAmoHalves.AmoHalves
end Go.Proofs.Ytkcbcehdpcjmhaa.Pure

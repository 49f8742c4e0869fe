/- MulTurns: a product's halves are those of the turned one, and with signs the high half differs as the signs say, for every two words; no condition. -/
import Derived.Test.YtomomaldkliofaaPAllx5
import Derived.Test.YtomomaldkliofaaS0
namespace Go.Proofs.Ytomomaldkliofaa.PureMulTurns
open Go.RowKit Go.Proofs.Ytomomaldkliofaa.PAll Go.Proofs.YtomomaldkliofaaW.PrintWords Go.Proofs.YtomomaldkliofaaW.PrintLast
open Go.Proofs.Ytomomaldkliofaa.Vw Go.Proofs.Ytomomaldkliofaa.Pure
set_option linter.unusedVariables false
set_option linter.unusedSimpArgs false

theorem awake_is : vireolaw06_awake.f 405 = some true := by decide +kernel
theorem highS_turn (a b : Nat) : highS a b true = highS b a true := by
  unfold highS
  rw [Nat.mul_comm b a]
  generalize a * b = p
  by_cases c1 : 9223372036854775808 ≤ a
  · by_cases c2 : 9223372036854775808 ≤ b
    · rw [if_pos c1, if_pos ⟨rfl, c2⟩, if_pos c2, if_pos ⟨rfl, c1⟩]; omega
    · rw [if_pos c1, if_neg (fun h => c2 h.2), if_neg c2, if_pos ⟨rfl, c1⟩]; omega
  · by_cases c2 : 9223372036854775808 ≤ b
    · rw [if_neg c1, if_pos ⟨rfl, c2⟩, if_pos c2, if_neg (fun h => c1 h.2)]; omega
    · rw [if_neg c1, if_neg (fun h => c2 h.2), if_neg c2, if_neg (fun h => c1 h.2)]
theorem turns_j1 (a b : Nat) (ha : a < 18446744073709551616) (hb : b < 18446744073709551616) (k : Nat) (want : Int) (hw : want = highS a b false) : vireolaw06_MulTurns.j1 (k + 1) (a : Int) (b : Int) want = some true := by
  obtain ⟨wb, hwb, hwb2⟩ : ∃ wb, wrap64 (b : Int) = wb ∧ (wb < 0 ↔ 9223372036854775808 ≤ b) := ⟨_, rfl, by unfold wrap64; omega⟩
  simp only [vireolaw06_MulTurns.j1]
  rw [hwb, mul_HighSigned_is a b false ha hb, Option.bind_some, if_pos hw.symm, mul_HighSigned_is a b true ha hb]
  clear hwb
  subst hw
  have hf : highS a b true = (highS a b false - (if 9223372036854775808 ≤ b then (a : Int) else 0)) % 18446744073709551616 := by
    unfold highS
    generalize a * b = p
    rw [if_neg (fun h => by cases h.1 : ¬ (false = true ∧ 9223372036854775808 ≤ b))]
    generalize (if 9223372036854775808 ≤ a then (b : Int) else 0) = s
    by_cases c2 : 9223372036854775808 ≤ b
    · rw [if_pos ⟨rfl, c2⟩, if_pos c2]; omega
    · rw [if_neg (fun h => c2 h.2), if_neg c2]; omega
  rw [IntKind.wrap_u64]
  by_cases c2 : 9223372036854775808 ≤ b
  · rw [if_pos (hwb2.mpr c2), hf, if_pos c2, Option.bind_some, beq_self_eq_true]
  · have hr : highS a b false % 18446744073709551616 = highS a b false := by unfold highS; rw [Int.emod_emod_of_dvd _ (Int.dvd_refl _)]
    rw [if_neg (fun h => c2 (hwb2.mp h)), hf, if_neg c2, Int.sub_zero, hr, Option.bind_some, beq_self_eq_true]
theorem MulTurns : vireolaw06_MulTurns.Pure := by
  intro a0 a1 h0 h1
  obtain ⟨a, rfl, ha⟩ := u64_of_wf h0
  obtain ⟨b, rfl, hb⟩ := u64_of_wf h1
  refine ⟨405, ?_⟩
  unfold vireolaw06_MulTurns.f
  rw [awake_is, Option.bind_some, if_pos rfl, mul_High_is a b ha hb, Option.bind_some, mul_High_is b a hb ha, Option.bind_some, Nat.mul_comm b a, if_pos rfl, mul_HighSigned_is a b true ha hb, Option.bind_some, mul_HighSigned_is b a true hb ha, Option.bind_some, highS_turn b a, bne_self_eq_false]
  obtain ⟨wa, hwa, hwa2⟩ : ∃ wa, wrap64 (a : Int) = wa ∧ (wa < 0 ↔ 9223372036854775808 ≤ a) := ⟨_, rfl, by unfold wrap64; omega⟩
  rw [show (405 : Nat) = 404 + 1 from rfl]
  simp only [vireolaw06_MulTurns.j0]
  rw [if_neg (show ¬ (false = true) by decide), hwa, mul_High_is a b ha hb, Option.bind_some, IntKind.wrap_u64]
  clear hwa
  have hl := mul_lt ha hb
  by_cases c1 : 9223372036854775808 ≤ a
  · rw [if_pos (hwa2.mpr c1)]
    refine turns_j1 a b ha hb 403 _ ?_
    unfold highS
    generalize a * b = p at *
    rw [if_pos c1, if_neg (fun h => by cases h.1 : ¬ (false = true ∧ 9223372036854775808 ≤ b))]
    omega
  · rw [if_neg (fun h => c1 (hwa2.mp h))]
    refine turns_j1 a b ha hb 403 _ ?_
    unfold highS
    generalize a * b = p at *
    rw [if_neg c1, if_neg (fun h => by cases h.1 : ¬ (false = true ∧ 9223372036854775808 ≤ b))]
    omega
end Go.Proofs.Ytomomaldkliofaa.PureMulTurns
namespace Go.Proofs.Ytomomaldkliofaa.Pure
theorem MulTurns : PAll.vireolaw06_MulTurns.Pure := PureMulTurns.MulTurns
end Go.Proofs.Ytomomaldkliofaa.Pure

/- AluTakes: whether any branch by any two words is taken is what the reference says, for every number and every two words; no condition. -/
import Derived.Test.YtijckgnhkmgpnaaPAllx8
import Derived.Test.YtijckgnhkmgpnaaS0
namespace Go.Proofs.Ytijckgnhkmgpnaa.PureAluTakes
open Go.RowKit Go.Proofs.Ytijckgnhkmgpnaa.PAll Go.Proofs.YtijckgnhkmgpnaaW.PrintWords Go.Proofs.YtijckgnhkmgpnaaW.PrintLast
open Go.Proofs.Ytijckgnhkmgpnaa.Vw Go.Proofs.Ytijckgnhkmgpnaa.Pure
set_option linter.unusedVariables false
set_option linter.unusedSimpArgs false

theorem awake_is : vireolaw05_awake.f 420 = some true := by decide +kernel
theorem same (op : Int) (a b : Nat) (ha : a < 18446744073709551616) (hb : b < 18446744073709551616) (k : Nat) (hk : 140 ≤ k) : ∃ r, alu_Taken.f op (a : Int) (b : Int) = some r ∧ vireoref05_Taken.f k op (a : Int) (b : Int) = some r := by
  have hL := vireoref05_Less_is a b ha hb k hk
  have hl := alu_less_is a b ha hb
  unfold vireoref05_Taken.f alu_Taken.f
  rw [hL, hl]
  simp only [Option.bind_some]
  clear hL hl
  generalize decide (sI a < sI b) = c
  have heq : ((a : Int) == (b : Int)) = decide ((a : Int) = b) := by rw [Bool.eq_iff_iff]; simp
  have hne : ((a : Int) != (b : Int)) = !decide ((a : Int) = b) := by rw [Bool.eq_iff_iff]; simp
  have hge : decide ((a : Int) ≥ (b : Int)) = !decide ((a : Int) < b) := by rw [Bool.eq_iff_iff]; simp
  rw [heq, hne, hge]
  by_cases n5 : op = 5
  · subst n5; by_cases e : (a : Int) = b <;> cases c <;> simp [e]
  by_cases n6 : op = 6
  · subst n6; by_cases e : (a : Int) = b <;> cases c <;> simp [e]
  by_cases n7 : op = 7
  · subst n7; cases c <;> simp
  by_cases n8 : op = 8
  · subst n8; cases c <;> simp
  by_cases n9 : op = 9
  · subst n9; by_cases e : (a : Int) < b <;> cases c <;> simp [e]
  by_cases n10 : op = 10
  · subst n10; by_cases e : (a : Int) < b
    · cases c <;> simp [e]
    · cases c <;> simp [e] <;> omega
  cases c <;> simp [n5, n6, n7, n8, n9, n10]
theorem AluTakes : vireolaw05_AluTakes.Pure := by
  intro a0 a1 a2 h0 h1 h2
  obtain ⟨a, rfl, ha⟩ := u64_of_wf h1
  obtain ⟨b, rfl, hb⟩ := u64_of_wf h2
  refine ⟨420, ?_⟩
  unfold vireolaw05_AluTakes.f
  obtain ⟨r, e1, e2⟩ := same a0 a b ha hb 420 (by omega)
  rw [awake_is, Option.bind_some, if_pos rfl, e1, Option.bind_some, e2, Option.bind_some, beq_self_eq_true]
end Go.Proofs.Ytijckgnhkmgpnaa.PureAluTakes
namespace Go.Proofs.Ytijckgnhkmgpnaa.Pure
theorem AluTakes : PAll.vireolaw05_AluTakes.Pure := PureAluTakes.AluTakes
end Go.Proofs.Ytijckgnhkmgpnaa.Pure

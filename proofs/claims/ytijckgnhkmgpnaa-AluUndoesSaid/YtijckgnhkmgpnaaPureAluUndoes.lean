/- AluUndoes: less undoes more, twice one alone undoes itself, and less is told as a branch takes it, for every two words; no condition. -/
import Derived.Test.YtijckgnhkmgpnaaPAllx8
import Derived.Test.YtijckgnhkmgpnaaS0
namespace Go.Proofs.Ytijckgnhkmgpnaa.PureAluUndoes
open Go.RowKit Go.Proofs.Ytijckgnhkmgpnaa.PAll Go.Proofs.YtijckgnhkmgpnaaW.PrintWords Go.Proofs.YtijckgnhkmgpnaaW.PrintLast
open Go.Proofs.Ytijckgnhkmgpnaa.Vw Go.Proofs.Ytijckgnhkmgpnaa.Pure
set_option linter.unusedVariables false
set_option linter.unusedSimpArgs false

theorem awake_is : vireolaw05_awake.f 420 = some true := by decide +kernel
theorem AluUndoes : vireolaw05_AluUndoes.Pure := by
  intro a0 a1 h0 h1
  obtain ⟨a, rfl, ha⟩ := u64_of_wf h0
  obtain ⟨b, rfl, hb⟩ := u64_of_wf h1
  refine ⟨420, ?_⟩
  have hl := alu_less_is a b ha hb
  have e1 := (both_add a b ha hb 400 (by omega) 31 (.inl rfl)).2.1
  have e2 := (both_sub ((a + b) % 18446744073709551616) b (by omega) hb 400 (by omega)).2.1
  have e3 := (both_xor a b ha hb 400 (by omega) 36 (.inl rfl)).2.1
  have e4 := (both_xor (a ^^^ b) b (xor_lt ha hb) hb 400 (by omega) 36 (.inl rfl)).2.1
  have e5 := (both_slt a b ha hb 400 (by omega) 34 (.inl rfl)).2.1
  have e6 := (both_sltu a b ha hb 400 (by omega) 35 (.inl rfl)).2.1
  have e7 : alu_Taken.f 7 (a : Int) (b : Int) = some (decide (sI a < sI b)) := by
    show (alu_less.f (a : Int) (b : Int)).bind _ = _
    rw [hl]; rfl
  have e9 : alu_Taken.f 9 (a : Int) (b : Int) = some (decide (a < b)) := by
    show some (decide ((a : Int) < b)) = _
    exact congrArg some (decide_eq_decide.mpr (by omega))
  have f2 : ((a + b) % 18446744073709551616 + (18446744073709551616 - b)) % 18446744073709551616 = a := by omega
  have f4 : a ^^^ b ^^^ b = a := by rw [Nat.xor_assoc, Nat.xor_self, Nat.xor_zero]
  rw [f2] at e2
  rw [f4] at e4
  simp only [show 400 + 20 = 420 from rfl] at e1 e2 e3 e4 e5 e6
  unfold vireolaw05_AluUndoes.f
  rw [awake_is, Option.bind_some, if_pos rfl, e1, Option.bind_some, e2, Option.bind_some, e3, Option.bind_some, e4, Option.bind_some, e5, Option.bind_some, e6, Option.bind_some, if_pos rfl, if_pos rfl, e7, Option.bind_some, e9]
  cases decide (sI a < sI b) <;> cases decide (a < b) <;> rfl
end Go.Proofs.Ytijckgnhkmgpnaa.PureAluUndoes
namespace Go.Proofs.Ytijckgnhkmgpnaa.Pure
theorem AluUndoes : PAll.vireolaw05_AluUndoes.Pure := PureAluUndoes.AluUndoes
end Go.Proofs.Ytijckgnhkmgpnaa.Pure

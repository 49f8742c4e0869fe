/- AluOpposites: of two branches that are each other's opposite just one is taken, for every two words; no condition. -/
import Derived.Test.YtijckgnhkmgpnaaPAllx8
import Derived.Test.YtijckgnhkmgpnaaS0
namespace Go.Proofs.Ytijckgnhkmgpnaa.PureAluOpposites
open Go.RowKit Go.Proofs.Ytijckgnhkmgpnaa.PAll Go.Proofs.YtijckgnhkmgpnaaW.PrintWords Go.Proofs.YtijckgnhkmgpnaaW.PrintLast
open Go.Proofs.Ytijckgnhkmgpnaa.Vw Go.Proofs.Ytijckgnhkmgpnaa.Pure
set_option linter.unusedVariables false
set_option linter.unusedSimpArgs false

theorem awake_is : vireolaw05_awake.f 420 = some true := by decide +kernel
theorem AluOpposites : vireolaw05_AluOpposites.Pure := by
  intro a0 a1 h0 h1
  obtain ⟨a, rfl, ha⟩ := u64_of_wf h0
  obtain ⟨b, rfl, hb⟩ := u64_of_wf h1
  refine ⟨420, ?_⟩
  have hl := alu_less_is a b ha hb
  have e5 : alu_Taken.f 5 (a : Int) (b : Int) = some ((a : Int) == b) := rfl
  have e6 : alu_Taken.f 6 (a : Int) (b : Int) = some ((a : Int) != b) := rfl
  have e7 : alu_Taken.f 7 (a : Int) (b : Int) = some (decide (sI a < sI b)) := by
    show (alu_less.f (a : Int) (b : Int)).bind _ = _
    rw [hl]; rfl
  have e8 : alu_Taken.f 8 (a : Int) (b : Int) = some (!decide (sI a < sI b)) := by
    show (alu_less.f (a : Int) (b : Int)).bind (fun t => some (!t)) = _
    rw [hl]; rfl
  have e9 : alu_Taken.f 9 (a : Int) (b : Int) = some (decide ((a : Int) < b)) := rfl
  have e10 : alu_Taken.f 10 (a : Int) (b : Int) = some (decide ((a : Int) ≥ b)) := rfl
  have hge : decide ((a : Int) ≥ (b : Int)) = !decide ((a : Int) < b) := by rw [Bool.eq_iff_iff]; simp
  unfold vireolaw05_AluOpposites.f
  rw [awake_is, Option.bind_some, if_pos rfl, e5, Option.bind_some, e6, Option.bind_some, e7, Option.bind_some, e8, Option.bind_some, e9, Option.bind_some, e10, Option.bind_some, hge, show ((a : Int) != b) = !((a : Int) == b) from rfl]
  cases (a : Int) == b <;> cases decide (sI a < sI b) <;> cases decide ((a : Int) < b) <;> rfl
end Go.Proofs.Ytijckgnhkmgpnaa.PureAluOpposites
namespace Go.Proofs.Ytijckgnhkmgpnaa.Pure
theorem AluOpposites : PAll.vireolaw05_AluOpposites.Pure := PureAluOpposites.AluOpposites
end Go.Proofs.Ytijckgnhkmgpnaa.Pure

/- AluExtends: what any load makes of what it read is what the reference says, for every number and every word; no condition. -/
import Derived.Test.YtijckgnhkmgpnaaPAllx8
import Derived.Test.YtijckgnhkmgpnaaS0
namespace Go.Proofs.Ytijckgnhkmgpnaa.PureAluExtends
open Go.RowKit Go.Proofs.Ytijckgnhkmgpnaa.PAll Go.Proofs.YtijckgnhkmgpnaaW.PrintWords Go.Proofs.YtijckgnhkmgpnaaW.PrintLast
open Go.Proofs.Ytijckgnhkmgpnaa.Vw Go.Proofs.Ytijckgnhkmgpnaa.Pure
set_option linter.unusedVariables false
set_option linter.unusedSimpArgs false

theorem awake_is : vireolaw05_awake.f 420 = some true := by decide +kernel
theorem getLow (x n : Nat) (hn : n ≤ 64) : getW x 0 (n : Int) = x % 2 ^ n := by
  unfold getW
  rw [if_pos (by omega), show (0 : Int).toNat = 0 from rfl, Nat.pow_zero, Nat.div_one, show cnt (n : Int) = n by unfold cnt; omega]
theorem AluExtends : vireolaw05_AluExtends.Pure := by
  intro a0 a1 h0 h1
  obtain ⟨a, rfl, ha⟩ := u64_of_wf h1
  refine ⟨420, ?_⟩
  unfold vireolaw05_AluExtends.f
  rw [awake_is, Option.bind_some, if_pos rfl]
  have hs : ∀ n : Int, -9223372036854775808 ≤ n ∧ n ≤ 9223372036854775807 → word_Sext.f 420 (a : Int) n = some ((sextW a n : Nat) : Int) := fun n hn => word_Sext_is 420 (by omega) a n ha hn
  have hr : ∀ n : Int, vireoref01_Sext.f 420 (a : Int) n = some ((sextW a n : Nat) : Int) := fun n => vireoref01_Sext_is a ha n 420 (by omega)
  have h32 := word_Sext32_is a ha
  have g8 : word_Get.f (a : Int) 0 8 = some (Int.tmod (a : Int) 256) := by
    rw [word_Get_is a 0 8 ha, show (256 : Int) = ((256 : Nat) : Int) from rfl, tmod_nat]; exact congrArg (fun x : Nat => some (x : Int)) (getLow a 8 (by omega))
  have g16 : word_Get.f (a : Int) 0 16 = some (Int.tmod (a : Int) 65536) := by
    rw [word_Get_is a 0 16 ha, show (65536 : Int) = ((65536 : Nat) : Int) from rfl, tmod_nat]; exact congrArg (fun x : Nat => some (x : Int)) (getLow a 16 (by omega))
  have g32 : word_Get.f (a : Int) 0 32 = some (Int.tmod (a : Int) 4294967296) := by
    rw [word_Get_is a 0 32 ha, show (4294967296 : Int) = ((4294967296 : Nat) : Int) from rfl, tmod_nat]; exact congrArg (fun x : Nat => some (x : Int)) (getLow a 32 (by omega))
  have key : ∃ v, alu_Extend.f 420 a0 (a : Int) = some v ∧ vireoref05_Extend.f 420 a0 (a : Int) = some v := by
    unfold alu_Extend.f vireoref05_Extend.f
    rw [hs 8 (by omega), hs 16 (by omega), h32, g8, g16, g32, hr, hr, hr]
    clear hs hr h32 g8 g16 g32
    repeat' split
    all_goals exact ⟨_, rfl, rfl⟩
  obtain ⟨v, e1, e2⟩ := key
  rw [e1, Option.bind_some, e2, Option.bind_some, beq_self_eq_true]
end Go.Proofs.Ytijckgnhkmgpnaa.PureAluExtends
namespace Go.Proofs.Ytijckgnhkmgpnaa.Pure
theorem AluExtends : PAll.vireolaw05_AluExtends.Pure := PureAluExtends.AluExtends
end Go.Proofs.Ytijckgnhkmgpnaa.Pure

/- WordPuts: any bits of any word are replaced, and none beside them, for every two words, place and number of bits; no condition. -/
import Derived.Test.YtidcjbloidbpdaaPArrx3
import Derived.Test.YtidcjbloidbpdaaS1
import Derived.Test.YtidcjbloidbpdaaOpArr
namespace Go.Proofs.Ytidcjbloidbpdaa.PureWordPuts
open Go.RowKit Go.Proofs.Ytidcjbloidbpdaa.PArr Go.Proofs.YtidcjbloidbpdaaW.PrintWords Go.Proofs.YtidcjbloidbpdaaW.PrintLast
open Go.Proofs.Ytidcjbloidbpdaa.Vw Go.Proofs.Ytidcjbloidbpdaa.Pure Go.Proofs.Ytidcjbloidbpdaa.OpArr
set_option linter.unusedVariables false
set_option linter.unusedSimpArgs false

theorem awake_is : vireolaw01_awake.f 300 = some true := by decide +kernel
theorem WordPuts : vireolaw01_WordPuts.Pure2 := by
  rintro x0 x1 ⟨at_, n⟩ g0 g1 ⟨g2, g3⟩
  obtain ⟨w, rfl, hw⟩ := u64_of_wf g0
  obtain ⟨v, rfl, hv⟩ := u64_of_wf g1
  have hr : -9223372036854775808 ≤ at_ ∧ at_ ≤ 9223372036854775807 := i64_of_wf g2
  refine ⟨300, ?_⟩
  unfold vireolaw01_WordPuts.f
  dsimp only
  have hp := putW_lt hw at_ n v
  rw [awake_is, Option.bind_some, if_pos rfl, word_Put_is w at_ n v hw hv, Option.bind_some, vireoref01_Put_is w hw at_ n v hv 300 (by omega), Option.bind_some, if_pos rfl, word_Get_is _ at_ n hp, Option.bind_some, vireoref01_Get_is v hv 0 n 300 (by omega), Option.bind_some]
  by_cases c1 : at_ < 0
  · rw [if_pos c1]
  rw [if_neg c1]
  by_cases c2 : at_ > 63
  · rw [if_pos c2]
  rw [if_neg c2]
  by_cases c3 : n < 0
  · rw [if_pos c3]
  rw [if_neg c3]
  rw [w64_id _ (by omega) (by omega)]
  by_cases c4 : n > 64 - at_
  · rw [if_pos c4]
  rw [if_neg c4]
  have key : getW (putW w at_ n v) at_ n = getW v 0 n := by
    apply eq64 (getW_lt hp _ _) (getW_lt hv _ _)
    intro i hi
    rw [tb_getW, tb_getW, decide_eq_true (show 0 ≤ at_ ∧ at_ ≤ 63 by omega), decide_eq_true (show 0 ≤ (0 : Int) ∧ (0 : Int) ≤ 63 by omega), Bool.true_and, Bool.true_and]
    by_cases c : i < cnt n
    · rw [decide_eq_true c, Bool.true_and, Bool.true_and]
      have hc : at_.toNat + i < 64 := by unfold cnt at c; omega
      unfold putW
      rw [if_pos (show 0 ≤ at_ ∧ at_ ≤ 63 by omega), testBit_ob, decide_eq_true hc, Bool.true_and, if_pos (by omega)]
      congr 1
      show at_.toNat + i - at_.toNat = (0 : Int).toNat + i
      simp
    · rw [decide_eq_false c]; rfl
  rw [key, beq_self_eq_true]
end Go.Proofs.Ytidcjbloidbpdaa.PureWordPuts
namespace Go.Proofs.Ytidcjbloidbpdaa.Pure
theorem WordPuts : OpArr.vireolaw01_WordPuts.Pure2 := PureWordPuts.WordPuts
end Go.Proofs.Ytidcjbloidbpdaa.Pure

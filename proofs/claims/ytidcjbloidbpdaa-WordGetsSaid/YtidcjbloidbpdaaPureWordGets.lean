/- WordGets: any bits of any word are told as the reference tells them, for every word, place and number of bits; no condition. -/
import Derived.Test.YtidcjbloidbpdaaPAllx2
import Derived.Test.YtidcjbloidbpdaaS0
namespace Go.Proofs.Ytidcjbloidbpdaa.PureWordGets
open Go.RowKit Go.Proofs.Ytidcjbloidbpdaa.PAll Go.Proofs.YtidcjbloidbpdaaW.PrintWords Go.Proofs.YtidcjbloidbpdaaW.PrintLast
open Go.Proofs.Ytidcjbloidbpdaa.Vw Go.Proofs.Ytidcjbloidbpdaa.Pure
set_option linter.unusedVariables false
set_option linter.unusedSimpArgs false

theorem awake_is : vireolaw01_awake.f 300 = some true := by decide +kernel
theorem WordGets : vireolaw01_WordGets.Pure := by
  intro a0 a1 a2 h0 h1 h2
  obtain ⟨x, rfl, hx⟩ := u64_of_wf h0
  refine ⟨300, ?_⟩
  unfold vireolaw01_WordGets.f
  rw [awake_is]
  simp only [Option.bind_some, if_true]
  rw [word_Get_is x a1 a2 hx, vireoref01_Get_is x hx a1 a2 300 (by omega)]
  simp only [Option.bind_some, if_true]
  rw [word_Mask_is, vireoref01_Mask_is a2 300 (by omega)]
  simp only [Option.bind_some, if_true]
  rw [word_Bit_is x a1 hx, vireoref01_Get_is x hx a1 1 300 (by omega), getW_one]
  simp only [Option.bind_some]
  congr 1
  split <;> rename_i h
  · rw [h]; rfl
  · rw [Bool.not_eq_true] at h; rw [h]; rfl
end Go.Proofs.Ytidcjbloidbpdaa.PureWordGets
namespace Go.Proofs.Ytidcjbloidbpdaa.Pure
theorem WordGets : PAll.vireolaw01_WordGets.Pure := PureWordGets.WordGets
end Go.Proofs.Ytidcjbloidbpdaa.Pure

/- WordSigns: the low bits of a word with their sign are as the reference tells them, for every word and every number of bits; no condition. -/
import Derived.Test.YtidcjbloidbpdaaPAllx2
import Derived.Test.YtidcjbloidbpdaaS0
namespace Go.Proofs.Ytidcjbloidbpdaa.PureWordSigns
open Go.RowKit Go.Proofs.Ytidcjbloidbpdaa.PAll Go.Proofs.YtidcjbloidbpdaaW.PrintWords Go.Proofs.YtidcjbloidbpdaaW.PrintLast
open Go.Proofs.Ytidcjbloidbpdaa.Vw Go.Proofs.Ytidcjbloidbpdaa.Pure
set_option linter.unusedVariables false
set_option linter.unusedSimpArgs false

theorem awake_is : vireolaw01_awake.f 300 = some true := by decide +kernel
theorem WordSigns : vireolaw01_WordSigns.Pure := by
  intro a0 a1 h0 h1
  obtain ⟨x, rfl, hx⟩ := u64_of_wf h0
  refine ⟨300, ?_⟩
  unfold vireolaw01_WordSigns.f
  rw [awake_is]
  simp only [Option.bind_some, if_true]
  rw [word_Sext_is 300 (by omega) x a1 hx (i64_of_wf h1), vireoref01_Sext_is x hx a1 300 (by omega)]
  simp only [Option.bind_some, if_true]
  rw [word_Sext32_is x hx, vireoref01_Sext_is x hx 32 300 (by omega)]
  simp
end Go.Proofs.Ytidcjbloidbpdaa.PureWordSigns
namespace Go.Proofs.Ytidcjbloidbpdaa.Pure
theorem WordSigns : PAll.vireolaw01_WordSigns.Pure := PureWordSigns.WordSigns
end Go.Proofs.Ytidcjbloidbpdaa.Pure

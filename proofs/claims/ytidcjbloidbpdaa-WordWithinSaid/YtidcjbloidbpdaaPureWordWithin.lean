/- WordWithin: whether any piece lies in any other one is told as if addresses had no end, for every four words; no condition. -/
import Derived.Test.YtidcjbloidbpdaaPArrx2
import Derived.Test.YtidcjbloidbpdaaS1
import Derived.Test.YtidcjbloidbpdaaOpArr
namespace Go.Proofs.Ytidcjbloidbpdaa.PureWordWithin
open Go.RowKit Go.Proofs.Ytidcjbloidbpdaa.PArr Go.Proofs.YtidcjbloidbpdaaW.PrintWords Go.Proofs.YtidcjbloidbpdaaW.PrintLast
open Go.Proofs.Ytidcjbloidbpdaa.Vw Go.Proofs.Ytidcjbloidbpdaa.Pure Go.Proofs.Ytidcjbloidbpdaa.OpArr
set_option linter.unusedVariables false
set_option linter.unusedSimpArgs false

theorem awake_is : vireolaw01_awake.f 300 = some true := by decide +kernel
theorem WordWithin : vireolaw01_WordWithin.Pure2 := by
  rintro ⟨x0, x1⟩ ⟨y0, y1⟩ ⟨g0, g1⟩ ⟨g2, g3⟩
  obtain ⟨a, rfl, ha⟩ := u64_of_wf g0
  obtain ⟨n, rfl, hn⟩ := u64_of_wf g1
  obtain ⟨b, rfl, hb⟩ := u64_of_wf g2
  obtain ⟨m, rfl, hm⟩ := u64_of_wf g3
  refine ⟨300, ?_⟩
  unfold vireolaw01_WordWithin.f
  dsimp only
  rw [awake_is, Option.bind_some, if_pos rfl, within_word a n b m ha hn hb hm, Option.bind_some, within_ref a n b m ha hn hb hm, Option.bind_some, beq_self_eq_true]
end Go.Proofs.Ytidcjbloidbpdaa.PureWordWithin
namespace Go.Proofs.Ytidcjbloidbpdaa.Pure
theorem WordWithin : OpArr.vireolaw01_WordWithin.Pure2 := PureWordWithin.WordWithin
end Go.Proofs.Ytidcjbloidbpdaa.Pure

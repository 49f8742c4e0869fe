/- WordOverlaps: whether two pieces have a byte in common is told as if addresses had no end, for every four words; no condition. -/
import Derived.Test.YtidcjbloidbpdaaPArrx3
import Derived.Test.YtidcjbloidbpdaaS1
import Derived.Test.YtidcjbloidbpdaaOpArr
namespace Go.Proofs.Ytidcjbloidbpdaa.PureWordOverlaps
open Go.RowKit Go.Proofs.Ytidcjbloidbpdaa.PArr Go.Proofs.YtidcjbloidbpdaaW.PrintWords Go.Proofs.YtidcjbloidbpdaaW.PrintLast
open Go.Proofs.Ytidcjbloidbpdaa.Vw Go.Proofs.Ytidcjbloidbpdaa.Pure Go.Proofs.Ytidcjbloidbpdaa.OpArr
set_option linter.unusedVariables false
set_option linter.unusedSimpArgs false

theorem awake_is : vireolaw01_awake.f 300 = some true := by decide +kernel
theorem ovl_turn (a n b m : Nat) : ovl b m a n = ovl a n b m := by unfold ovl; exact decide_eq_decide.mpr (by omega)
theorem WordOverlaps : vireolaw01_WordOverlaps.Pure2 := by
  rintro ⟨x0, x1⟩ ⟨y0, y1⟩ ⟨g0, g1⟩ ⟨g2, g3⟩
  obtain ⟨a, rfl, ha⟩ := u64_of_wf g0
  obtain ⟨n, rfl, hn⟩ := u64_of_wf g1
  obtain ⟨b, rfl, hb⟩ := u64_of_wf g2
  obtain ⟨m, rfl, hm⟩ := u64_of_wf g3
  refine ⟨300, ?_⟩
  unfold vireolaw01_WordOverlaps.f
  dsimp only
  rw [awake_is, Option.bind_some, if_pos rfl, over_word a n b m ha hn hb hm 299, Option.bind_some, over_ref a n b m ha hn hb hm, Option.bind_some, beq_self_eq_true, if_pos rfl, over_word b m a n hb hm ha hn 299, Option.bind_some, ovl_turn, beq_self_eq_true]
end Go.Proofs.Ytidcjbloidbpdaa.PureWordOverlaps
namespace Go.Proofs.Ytidcjbloidbpdaa.Pure
theorem WordOverlaps : OpArr.vireolaw01_WordOverlaps.Pure2 := PureWordOverlaps.WordOverlaps
end Go.Proofs.Ytidcjbloidbpdaa.Pure

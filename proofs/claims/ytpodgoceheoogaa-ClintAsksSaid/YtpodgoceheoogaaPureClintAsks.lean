/- ClintAsks: any access in any state tells what the reference says, and a load changes nothing, for every state and access; no condition. -/
import Derived.Test.YtpodgoceheoogaaPFix7
import Derived.Test.YtpodgoceheoogaaS0
import Derived.Test.YtpodgoceheoogaaOpFi
namespace Go.Proofs.Ytpodgoceheoogaa.PureClintAsks
open Go.RowKit Go.Proofs.Ytpodgoceheoogaa.PFi Go.Proofs.YtpodgoceheoogaaW.PrintWords Go.Proofs.YtpodgoceheoogaaW.PrintLast
open Go.Proofs.Ytpodgoceheoogaa.Vw Go.Proofs.Ytpodgoceheoogaa.Pure Go.Proofs.Ytpodgoceheoogaa.OpFi
set_option linter.unusedVariables false
set_option linter.unusedSimpArgs false

theorem awake_is : vireolaw11_awake.f = some true := by decide +kernel
theorem is_same (z : CS) : vireolaw11_is.f z.s (z.c : Int) (z.n : Int) z.s (z.c : Int) (z.n : Int) = some true := by
  unfold vireolaw11_is.f
  rw [if_pos (by cases z.s <;> rfl), if_pos rfl, beq_self_eq_true]
theorem asks_f (z : CS) (hz : z.ok) (a : Nat) (ha : a < 18446744073709551616) (x k w : Int) : vireolaw11_ClintAsks.f 200 z.s (z.c : Int) (z.n : Int) x (a : Int) k w = some true := by
  unfold vireolaw11_ClintAsks.f
  rw [awake_is, Option.bind_some, if_pos rfl, Load_is z hz a ha k, Option.bind_some, ref_Load_is z hz a ha k 200 (by decide), Option.bind_some, if_pos rfl, beq_self_eq_true, if_pos rfl, is_same, Option.bind_some, if_pos rfl, Lines_is, Option.bind_some, ref_Lines_is, Option.bind_some, beq_self_eq_true]
theorem ClintAsks : vireolaw11_ClintAsks.Pure2 := by
  intro b0 b1 b2 _ h1 h2
  obtain ⟨c, ec, hc⟩ := u64_of_wf h1.1
  obtain ⟨n, en, hn⟩ := u64_of_wf h1.2
  obtain ⟨a, ea, ha⟩ := u64_of_wf h2.2.1
  refine ⟨200, ?_⟩
  rw [ec, en, ea]
  exact asks_f ⟨b0, c, n⟩ ⟨hc, hn⟩ a ha _ _ _
end Go.Proofs.Ytpodgoceheoogaa.PureClintAsks
namespace Go.Proofs.Ytpodgoceheoogaa.Pure
theorem ClintAsks : OpFi.vireolaw11_ClintAsks.Pure2 := PureClintAsks.ClintAsks
end Go.Proofs.Ytpodgoceheoogaa.Pure

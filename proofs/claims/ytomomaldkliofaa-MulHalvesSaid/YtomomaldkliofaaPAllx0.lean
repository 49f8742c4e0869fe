-- Laid by this seat's own program (wip/tools/pp.sh, a turned copy of the kit's print). Lean checks it.
import Derived.Test.YtomomaldkliofaaProg
import Derived.Below
import Derived.Deep.Draws
import Derived.Deep.AppendLies
import Derived.Maps.AppendAt
import Derived.OwnWalk
import Derived.Laws.BytesArg
import Derived.Laws.MakeOwn
import Derived.Laws.OwnMore
import Derived.Deep.OwnRows
import Derived.Tactics
import Derived.Lib.ConvBytes
import Derived.Laws.Slices
import Derived.WalkKit
import Derived.KernelRfl
import Derived.RowKit3
import Derived.Deep.LoopGhost
import Derived.Deep.QuietTactic
import Derived.BigQuiet
import Derived.WideLaws
import Derived.Deep.DeepCutAuto
import Derived.Deep.CutBlock
import Derived.Deep.RegionHeld3
import Derived.Laws.Rows
import Derived.Lib.AppendStr
import Derived.ArgAppend
import Derived.Laws.IdiomCopy
import Derived.OrdersHeld
import Derived.Laws.BitsLemmas
import Derived.RowKit
import Derived.Test.YtomomaldkliofaaWWords
import Derived.Test.YtomomaldkliofaaWLast
import Derived.Test.YtomomaldkliofaaWTab
import Derived.Test.YtomomaldkliofaaWFour
import Derived.Test.YtomomaldkliofaaWQPut
import Derived.Test.YtomomaldkliofaaWApart
import Derived.Test.YtomomaldkliofaaWArr
import Derived.Test.YtomomaldkliofaaWZeros
import Derived.Test.YtomomaldkliofaaWFoot
import Derived.Test.YtomomaldkliofaaWKept
import Derived.Test.YtomomaldkliofaaWShare
import Derived.Test.YtomomaldkliofaaWN
import Derived.Test.YtomomaldkliofaaWFootNe
import Derived.Test.YtomomaldkliofaaWAt
import Derived.Test.YtomomaldkliofaaWEqStruct
import Derived.Test.YtomomaldkliofaaWRepsOne
import Derived.Test.YtomomaldkliofaaWInv
import Derived.Test.YtomomaldkliofaaWInvWords
import Derived.Test.YtomomaldkliofaaWGuard
import Derived.Test.YtomomaldkliofaaWNEv
import Derived.Test.YtomomaldkliofaaWMore
namespace Go.Proofs.Ytomomaldkliofaa.PAll
open Go.RowKit Go.Proofs.YtomomaldkliofaaW.PrintWords Go.Proofs.YtomomaldkliofaaW.PrintLast Go.Proofs.YtomomaldkliofaaW.PrintMore
attribute [local go_sem] max2_int min2_int max_two min_two max_three min_three max_four min_four   -- for this text's walks alone
set_option linter.unusedVariables false
set_option linter.unusedSimpArgs false



def errW : Option Int → Value
  | none => .nilIface
  | some c => .iface 0 (.int .i64 c)
theorem errW_none : errW none = .nilIface := rfl
theorem errW_some (c : Int) : errW (some c) = .iface 0 (.int .i64 c) := rfl

theorem info3 : (Try.prog.info? 3).map (fun i => (i.zero, i.size, i.bytes)) = some (some (.int .i64 0), 1, 8) := by kernel_rfl
-- the values' own types

end Go.Proofs.Ytomomaldkliofaa.PAll

-- Laid by this seat's own program (wip/tools/pp.sh, a turned copy of the kit's print). Lean checks it.
import Derived.Test.YtidcjbloidbpdaaProg
import Derived.Below
import Derived.Deep.Draws
import Derived.Deep.AppendLies
import Derived.Maps.AppendAt
import Derived.OwnWalk
import Derived.Laws.BytesArg
import Derived.Laws.MakeOwn
import Derived.Laws.OwnMore
import Derived.Deep.OwnRows
import Derived.Tactics
import Derived.Lib.ConvBytes
import Derived.Laws.Slices
import Derived.WalkKit
import Derived.KernelRfl
import Derived.RowKit3
import Derived.Deep.LoopGhost
import Derived.Deep.QuietTactic
import Derived.BigQuiet
import Derived.WideLaws
import Derived.Deep.DeepCutAuto
import Derived.Deep.CutBlock
import Derived.Deep.RegionHeld3
import Derived.Laws.Rows
import Derived.Lib.AppendStr
import Derived.ArgAppend
import Derived.Laws.IdiomCopy
import Derived.OrdersHeld
import Derived.Laws.BitsLemmas
import Derived.RowKit
import Derived.Test.YtidcjbloidbpdaaVm
import Derived.Test.YtidcjbloidbpdaaWWords
import Derived.Test.YtidcjbloidbpdaaWLast
import Derived.Test.YtidcjbloidbpdaaWTab
import Derived.Test.YtidcjbloidbpdaaWFour
import Derived.Test.YtidcjbloidbpdaaWQPut
import Derived.Test.YtidcjbloidbpdaaWApart
import Derived.Test.YtidcjbloidbpdaaWArr
import Derived.Test.YtidcjbloidbpdaaWZeros
import Derived.Test.YtidcjbloidbpdaaWFoot
import Derived.Test.YtidcjbloidbpdaaWKept
import Derived.Test.YtidcjbloidbpdaaWShare
import Derived.Test.YtidcjbloidbpdaaWN
import Derived.Test.YtidcjbloidbpdaaWFootNe
import Derived.Test.YtidcjbloidbpdaaWAt
import Derived.Test.YtidcjbloidbpdaaWEqStruct
import Derived.Test.YtidcjbloidbpdaaWRepsOne
import Derived.Test.YtidcjbloidbpdaaWInv
import Derived.Test.YtidcjbloidbpdaaWInvWords
import Derived.Test.YtidcjbloidbpdaaWGuard
import Derived.Test.YtidcjbloidbpdaaWNEv
import Derived.Test.YtidcjbloidbpdaaWMore
namespace Go.Proofs.Ytidcjbloidbpdaa.PBy
open Go.RowKit Go.Proofs.YtidcjbloidbpdaaW.PrintWords Go.Proofs.YtidcjbloidbpdaaW.PrintLast Go.Proofs.YtidcjbloidbpdaaW.PrintMore
attribute [local go_sem] max2_int min2_int max_two min_two max_three min_three max_four min_four   -- for this text's walks alone
set_option linter.unusedVariables false
set_option linter.unusedSimpArgs false



def errW : Option Int → Value
  | none => .nilIface
  | some c => .iface 0 (.int .i64 c)
theorem errW_none : errW none = .nilIface := rfl
theorem errW_some (c : Int) : errW (some c) = .iface 0 (.int .i64 c) := rfl

theorem info5 : (Try.prog.info? 5).map (fun i => (i.zero, i.size, i.bytes)) = some (some (.int .u8 0), 1, 1) := by kernel_rfl
-- the values' own types

end Go.Proofs.Ytidcjbloidbpdaa.PBy

-- The machine's side of the law FnExactSubtractIntervals, its head: made by q.py out of the kit's own print.
import Derived.Test.YtfckpcppeiboiaaProg
import Derived.Below
import Derived.Deep.Draws
import Derived.Deep.AppendLies
import Derived.Maps.AppendAt
import Derived.OwnWalk
import Derived.Laws.BytesArg
import Derived.Laws.MakeOwn
import Derived.Laws.OwnMore
import Derived.Deep.OwnRows
import Derived.Tactics
import Derived.Lib.ConvBytes
import Derived.Laws.Slices
import Derived.WalkKit
import Derived.KernelRfl
import Derived.RowKit3
import Derived.Deep.LoopGhost
import Derived.Deep.QuietTactic
import Derived.BigQuiet
import Derived.WideLaws
import Derived.Deep.DeepCutAuto
import Derived.Deep.CutBlock
import Derived.Deep.RegionHeld3
import Derived.Laws.Rows
import Derived.Lib.AppendStr
import Derived.ArgAppend
import Derived.Laws.IdiomCopy
import Derived.OrdersHeld
import Derived.Laws.BitsLemmas
import Derived.RowKit
import Derived.Test.YtfckpcppeiboiaaWWords
import Derived.Test.YtfckpcppeiboiaaWLast
import Derived.Test.YtfckpcppeiboiaaWTab
import Derived.Test.YtfckpcppeiboiaaWFour
import Derived.Test.YtfckpcppeiboiaaWQPut
import Derived.Test.YtfckpcppeiboiaaWApart
import Derived.Test.YtfckpcppeiboiaaWArr
import Derived.Test.YtfckpcppeiboiaaWZeros
import Derived.Test.YtfckpcppeiboiaaWFoot
import Derived.Test.YtfckpcppeiboiaaWKept
import Derived.Test.YtfckpcppeiboiaaWShare
import Derived.Test.YtfckpcppeiboiaaWN
import Derived.Test.YtfckpcppeiboiaaWFootNe
import Derived.Test.YtfckpcppeiboiaaWAt
import Derived.Test.YtfckpcppeiboiaaWEqStruct
import Derived.Test.YtfckpcppeiboiaaWRepsOne
import Derived.Test.YtfckpcppeiboiaaWInv
import Derived.Test.YtfckpcppeiboiaaWInvWords
import Derived.Test.YtfckpcppeiboiaaWGuard
import Derived.Test.YtfckpcppeiboiaaWNEv
import Derived.Test.YtfckpcppeiboiaaWMore
namespace Go.Proofs.Ytfckpcppeiboiaa.PFnExactSubtractIntervals
open Go.RowKit Go.Proofs.YtfckpcppeiboiaaW.PrintWords Go.Proofs.YtfckpcppeiboiaaW.PrintLast Go.Proofs.YtfckpcppeiboiaaW.PrintMore
attribute [local go_sem] max2_int min2_int max_two min_two max_three min_three max_four min_four   -- for this text's walks alone
set_option linter.unusedVariables false
set_option linter.unusedSimpArgs false



def errW : Option Int → Value
  | none => .nilIface
  | some c => .iface 0 (.int .i64 c)
theorem errW_none : errW none = .nilIface := rfl
theorem errW_some (c : Int) : errW (some c) = .iface 0 (.int .i64 c) := rfl

-- the values' own types

end Go.Proofs.Ytfckpcppeiboiaa.PFnExactSubtractIntervals

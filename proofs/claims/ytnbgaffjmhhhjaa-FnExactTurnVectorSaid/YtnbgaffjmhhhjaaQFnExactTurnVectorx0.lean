-- The machine's side of the law FnExactTurnVector, its head: made by q.py out of the kit's own print.
import Derived.Test.YtnbgaffjmhhhjaaProg
import Derived.Below
import Derived.Deep.Draws
import Derived.Deep.AppendLies
import Derived.Maps.AppendAt
import Derived.OwnWalk
import Derived.Laws.BytesArg
import Derived.Laws.MakeOwn
import Derived.Laws.OwnMore
import Derived.Deep.OwnRows
import Derived.Tactics
import Derived.Lib.ConvBytes
import Derived.Laws.Slices
import Derived.WalkKit
import Derived.KernelRfl
import Derived.RowKit3
import Derived.Deep.LoopGhost
import Derived.Deep.QuietTactic
import Derived.BigQuiet
import Derived.WideLaws
import Derived.Deep.DeepCutAuto
import Derived.Deep.CutBlock
import Derived.Deep.RegionHeld3
import Derived.Laws.Rows
import Derived.Lib.AppendStr
import Derived.ArgAppend
import Derived.Laws.IdiomCopy
import Derived.OrdersHeld
import Derived.Laws.BitsLemmas
import Derived.RowKit
import Derived.Test.YtnbgaffjmhhhjaaWWords
import Derived.Test.YtnbgaffjmhhhjaaWLast
import Derived.Test.YtnbgaffjmhhhjaaWTab
import Derived.Test.YtnbgaffjmhhhjaaWFour
import Derived.Test.YtnbgaffjmhhhjaaWQPut
import Derived.Test.YtnbgaffjmhhhjaaWApart
import Derived.Test.YtnbgaffjmhhhjaaWArr
import Derived.Test.YtnbgaffjmhhhjaaWZeros
import Derived.Test.YtnbgaffjmhhhjaaWFoot
import Derived.Test.YtnbgaffjmhhhjaaWKept
import Derived.Test.YtnbgaffjmhhhjaaWShare
import Derived.Test.YtnbgaffjmhhhjaaWN
import Derived.Test.YtnbgaffjmhhhjaaWFootNe
import Derived.Test.YtnbgaffjmhhhjaaWAt
import Derived.Test.YtnbgaffjmhhhjaaWEqStruct
import Derived.Test.YtnbgaffjmhhhjaaWRepsOne
import Derived.Test.YtnbgaffjmhhhjaaWInv
import Derived.Test.YtnbgaffjmhhhjaaWInvWords
import Derived.Test.YtnbgaffjmhhhjaaWGuard
import Derived.Test.YtnbgaffjmhhhjaaWNEv
import Derived.Test.YtnbgaffjmhhhjaaWMore
namespace Go.Proofs.Ytnbgaffjmhhhjaa.PFnExactTurnVector
open Go.RowKit Go.Proofs.YtnbgaffjmhhhjaaW.PrintWords Go.Proofs.YtnbgaffjmhhhjaaW.PrintLast Go.Proofs.YtnbgaffjmhhhjaaW.PrintMore
attribute [local go_sem] max2_int min2_int max_two min_two max_three min_three max_four min_four   -- for this text's walks alone
set_option linter.unusedVariables false
set_option linter.unusedSimpArgs false



def errW : Option Int → Value
  | none => .nilIface
  | some c => .iface 0 (.int .i64 c)
theorem errW_none : errW none = .nilIface := rfl
theorem errW_some (c : Int) : errW (some c) = .iface 0 (.int .i64 c) := rfl

-- the values' own types

end Go.Proofs.Ytnbgaffjmhhhjaa.PFnExactTurnVector

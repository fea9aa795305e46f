-- The machine's side of the law FnExactDayOfYear, its head: made by q.py out of the kit's own print.
import Derived.Test.YtboccnkleaiclaaProg
import Derived.Below
import Derived.Deep.Draws
import Derived.Deep.AppendLies
import Derived.Maps.AppendAt
import Derived.OwnWalk
import Derived.Laws.BytesArg
import Derived.Laws.MakeOwn
import Derived.Laws.OwnMore
import Derived.Deep.OwnRows
import Derived.Tactics
import Derived.Lib.ConvBytes
import Derived.Laws.Slices
import Derived.WalkKit
import Derived.KernelRfl
import Derived.RowKit3
import Derived.Deep.LoopGhost
import Derived.Deep.QuietTactic
import Derived.BigQuiet
import Derived.WideLaws
import Derived.Deep.DeepCutAuto
import Derived.Deep.CutBlock
import Derived.Deep.RegionHeld3
import Derived.Laws.Rows
import Derived.Lib.AppendStr
import Derived.ArgAppend
import Derived.Laws.IdiomCopy
import Derived.OrdersHeld
import Derived.Laws.BitsLemmas
import Derived.RowKit
import Derived.Test.YtboccnkleaiclaaWWords
import Derived.Test.YtboccnkleaiclaaWLast
import Derived.Test.YtboccnkleaiclaaWTab
import Derived.Test.YtboccnkleaiclaaWFour
import Derived.Test.YtboccnkleaiclaaWQPut
import Derived.Test.YtboccnkleaiclaaWApart
import Derived.Test.YtboccnkleaiclaaWArr
import Derived.Test.YtboccnkleaiclaaWZeros
import Derived.Test.YtboccnkleaiclaaWFoot
import Derived.Test.YtboccnkleaiclaaWKept
import Derived.Test.YtboccnkleaiclaaWShare
import Derived.Test.YtboccnkleaiclaaWN
import Derived.Test.YtboccnkleaiclaaWFootNe
import Derived.Test.YtboccnkleaiclaaWAt
import Derived.Test.YtboccnkleaiclaaWEqStruct
import Derived.Test.YtboccnkleaiclaaWRepsOne
import Derived.Test.YtboccnkleaiclaaWInv
import Derived.Test.YtboccnkleaiclaaWInvWords
import Derived.Test.YtboccnkleaiclaaWGuard
import Derived.Test.YtboccnkleaiclaaWNEv
import Derived.Test.YtboccnkleaiclaaWMore
namespace Go.Proofs.Ytboccnkleaiclaa.PFnExactDayOfYear
open Go.RowKit Go.Proofs.YtboccnkleaiclaaW.PrintWords Go.Proofs.YtboccnkleaiclaaW.PrintLast Go.Proofs.YtboccnkleaiclaaW.PrintMore
attribute [local go_sem] max2_int min2_int max_two min_two max_three min_three max_four min_four   -- for this text's walks alone
set_option linter.unusedVariables false
set_option linter.unusedSimpArgs false



def errW : Option Int → Value
  | none => .nilIface
  | some c => .iface 0 (.int .i64 c)
theorem errW_none : errW none = .nilIface := rfl
theorem errW_some (c : Int) : errW (some c) = .iface 0 (.int .i64 c) := rfl

-- the values' own types

end Go.Proofs.Ytboccnkleaiclaa.PFnExactDayOfYear

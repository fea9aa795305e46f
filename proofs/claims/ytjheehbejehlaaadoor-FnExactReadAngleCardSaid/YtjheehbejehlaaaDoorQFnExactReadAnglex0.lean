-- The machine's side of the law FnExactReadAngle, its head: made by q.py out of the kit's own print.
import Derived.Lib.SmallJoins
import Derived.Lib.SplitLaws
import Derived.Lib.AppendIntMem
import Derived.Lib.ItoaLen
import Derived.Test.YtjheehbejehlaaaDoorShelfRead
import Derived.Test.YtjheehbejehlaaaDoorProg
import Derived.Below
import Derived.Deep.Draws
import Derived.Deep.AppendLies
import Derived.Maps.AppendAt
import Derived.OwnWalk
import Derived.Laws.BytesArg
import Derived.Laws.MakeOwn
import Derived.Laws.OwnMore
import Derived.Deep.OwnRows
import Derived.Tactics
import Derived.Lib.ConvBytes
import Derived.Laws.Slices
import Derived.WalkKit
import Derived.KernelRfl
import Derived.RowKit3
import Derived.Deep.LoopGhost
import Derived.Deep.QuietTactic
import Derived.BigQuiet
import Derived.WideLaws
import Derived.Deep.DeepCutAuto
import Derived.Deep.CutBlock
import Derived.Deep.RegionHeld3
import Derived.Laws.Rows
import Derived.Lib.AppendStr
import Derived.ArgAppend
import Derived.Laws.IdiomCopy
import Derived.OrdersHeld
import Derived.Laws.BitsLemmas
import Derived.RowKit
import Derived.Test.YtjheehbejehlaaaDoorWWords
import Derived.Test.YtjheehbejehlaaaDoorWLast
import Derived.Test.YtjheehbejehlaaaDoorWTab
import Derived.Test.YtjheehbejehlaaaDoorWFour
import Derived.Test.YtjheehbejehlaaaDoorWQPut
import Derived.Test.YtjheehbejehlaaaDoorWApart
import Derived.Test.YtjheehbejehlaaaDoorWArr
import Derived.Test.YtjheehbejehlaaaDoorWZeros
import Derived.Test.YtjheehbejehlaaaDoorWFoot
import Derived.Test.YtjheehbejehlaaaDoorWKept
import Derived.Test.YtjheehbejehlaaaDoorWShare
import Derived.Test.YtjheehbejehlaaaDoorWN
import Derived.Test.YtjheehbejehlaaaDoorWFootNe
import Derived.Test.YtjheehbejehlaaaDoorWAt
import Derived.Test.YtjheehbejehlaaaDoorWEqStruct
import Derived.Test.YtjheehbejehlaaaDoorWRepsOne
import Derived.Test.YtjheehbejehlaaaDoorWInv
import Derived.Test.YtjheehbejehlaaaDoorWInvWords
import Derived.Test.YtjheehbejehlaaaDoorWGuard
import Derived.Test.YtjheehbejehlaaaDoorWNEv
import Derived.Test.YtjheehbejehlaaaDoorWMore
namespace Go.Proofs.YtjheehbejehlaaaDoor.PFnExactReadAngle
open Go.RowKit Go.Proofs.YtjheehbejehlaaaDoorW.PrintWords Go.Proofs.YtjheehbejehlaaaDoorW.PrintLast Go.Proofs.YtjheehbejehlaaaDoorW.PrintMore
attribute [local go_sem] max2_int min2_int max_two min_two max_three min_three max_four min_four   -- for this text's walks alone
set_option linter.unusedVariables false
set_option linter.unusedSimpArgs false



def errW : Option Int → Value
  | none => .nilIface
  | some c => .iface 98 (.int .i64 c)
theorem errW_none : errW none = .nilIface := rfl
theorem errW_some (c : Int) : errW (some c) = .iface 98 (.int .i64 c) := rfl

theorem info5 : (Tryd.prog.info? 5).map (fun i => (i.zero, i.size, i.bytes)) = some (some (.int .u8 0), 1, 1) := by kernel_rfl
theorem info9 : (Tryd.prog.info? 9).map (fun i => (i.zero, i.size, i.bytes)) = some (some (.string ⟨#[]⟩), 1, 16) := by kernel_rfl
-- the values' own types

end Go.Proofs.YtjheehbejehlaaaDoor.PFnExactReadAngle

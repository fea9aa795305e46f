-- The machine's side of the law FnExactSineRange, its head: made by q.py out of the kit's own print.
import Derived.Test.YtllapjemdegnjaaProg
import Derived.Below
import Derived.Deep.Draws
import Derived.Deep.AppendLies
import Derived.Maps.AppendAt
import Derived.OwnWalk
import Derived.Laws.BytesArg
import Derived.Laws.MakeOwn
import Derived.Laws.OwnMore
import Derived.Deep.OwnRows
import Derived.Tactics
import Derived.Lib.ConvBytes
import Derived.Laws.Slices
import Derived.WalkKit
import Derived.KernelRfl
import Derived.RowKit3
import Derived.Deep.LoopGhost
import Derived.Deep.QuietTactic
import Derived.BigQuiet
import Derived.WideLaws
import Derived.Deep.DeepCutAuto
import Derived.Deep.CutBlock
import Derived.Deep.RegionHeld3
import Derived.Laws.Rows
import Derived.Lib.AppendStr
import Derived.ArgAppend
import Derived.Laws.IdiomCopy
import Derived.OrdersHeld
import Derived.Laws.BitsLemmas
import Derived.RowKit
import Derived.Test.YtllapjemdegnjaaWWords
import Derived.Test.YtllapjemdegnjaaWLast
import Derived.Test.YtllapjemdegnjaaWTab
import Derived.Test.YtllapjemdegnjaaWFour
import Derived.Test.YtllapjemdegnjaaWQPut
import Derived.Test.YtllapjemdegnjaaWApart
import Derived.Test.YtllapjemdegnjaaWArr
import Derived.Test.YtllapjemdegnjaaWZeros
import Derived.Test.YtllapjemdegnjaaWFoot
import Derived.Test.YtllapjemdegnjaaWKept
import Derived.Test.YtllapjemdegnjaaWShare
import Derived.Test.YtllapjemdegnjaaWN
import Derived.Test.YtllapjemdegnjaaWFootNe
import Derived.Test.YtllapjemdegnjaaWAt
import Derived.Test.YtllapjemdegnjaaWEqStruct
import Derived.Test.YtllapjemdegnjaaWRepsOne
import Derived.Test.YtllapjemdegnjaaWInv
import Derived.Test.YtllapjemdegnjaaWInvWords
import Derived.Test.YtllapjemdegnjaaWGuard
import Derived.Test.YtllapjemdegnjaaWNEv
import Derived.Test.YtllapjemdegnjaaWMore
namespace Go.Proofs.Ytllapjemdegnjaa.PFnExactSineRange
open Go.RowKit Go.Proofs.YtllapjemdegnjaaW.PrintWords Go.Proofs.YtllapjemdegnjaaW.PrintLast Go.Proofs.YtllapjemdegnjaaW.PrintMore
attribute [local go_sem] max2_int min2_int max_two min_two max_three min_three max_four min_four   -- for this text's walks alone
set_option linter.unusedVariables false
set_option linter.unusedSimpArgs false



def errW : Option Int → Value
  | none => .nilIface
  | some c => .iface 0 (.int .i64 c)
theorem errW_none : errW none = .nilIface := rfl
theorem errW_some (c : Int) : errW (some c) = .iface 0 (.int .i64 c) := rfl

-- the values' own types

end Go.Proofs.Ytllapjemdegnjaa.PFnExactSineRange

-- The machine's side of the law FnMonths, its head: made by q.py out of the kit's own print.
import Derived.Lib.SmallJoins
import Derived.Lib.SplitLaws
import Derived.Lib.AppendIntMem
import Derived.Lib.ItoaLen
import Derived.Test.YtndjeclnadpifaaDoorShelfRead
import Derived.Test.YtndjeclnadpifaaDoorProg
import Derived.Below
import Derived.Deep.Draws
import Derived.Deep.AppendLies
import Derived.Maps.AppendAt
import Derived.OwnWalk
import Derived.Laws.BytesArg
import Derived.Laws.MakeOwn
import Derived.Laws.OwnMore
import Derived.Deep.OwnRows
import Derived.Tactics
import Derived.Lib.ConvBytes
import Derived.Laws.Slices
import Derived.WalkKit
import Derived.KernelRfl
import Derived.RowKit3
import Derived.Deep.LoopGhost
import Derived.Deep.QuietTactic
import Derived.BigQuiet
import Derived.WideLaws
import Derived.Deep.DeepCutAuto
import Derived.Deep.CutBlock
import Derived.Deep.RegionHeld3
import Derived.Laws.Rows
import Derived.Lib.AppendStr
import Derived.ArgAppend
import Derived.Laws.IdiomCopy
import Derived.OrdersHeld
import Derived.Laws.BitsLemmas
import Derived.RowKit
import Derived.Test.YtndjeclnadpifaaDoorVWords
import Derived.Test.YtndjeclnadpifaaDoorVLast
import Derived.Test.YtndjeclnadpifaaDoorVTab
import Derived.Test.YtndjeclnadpifaaDoorVFour
import Derived.Test.YtndjeclnadpifaaDoorVQPut
import Derived.Test.YtndjeclnadpifaaDoorVApart
import Derived.Test.YtndjeclnadpifaaDoorVArr
import Derived.Test.YtndjeclnadpifaaDoorVZeros
import Derived.Test.YtndjeclnadpifaaDoorVFoot
import Derived.Test.YtndjeclnadpifaaDoorVKept
import Derived.Test.YtndjeclnadpifaaDoorVShare
import Derived.Test.YtndjeclnadpifaaDoorVN
import Derived.Test.YtndjeclnadpifaaDoorVFootNe
import Derived.Test.YtndjeclnadpifaaDoorVAt
import Derived.Test.YtndjeclnadpifaaDoorVEqStruct
import Derived.Test.YtndjeclnadpifaaDoorVRepsOne
import Derived.Test.YtndjeclnadpifaaDoorVInv
import Derived.Test.YtndjeclnadpifaaDoorVInvWords
import Derived.Test.YtndjeclnadpifaaDoorVGuard
import Derived.Test.YtndjeclnadpifaaDoorVNEv
import Derived.Test.YtndjeclnadpifaaDoorVMore
namespace Go.Proofs.YtndjeclnadpifaaDoor.PFnMonths
open Go.RowKit Go.Proofs.YtndjeclnadpifaaDoorW.PrintWords Go.Proofs.YtndjeclnadpifaaDoorW.PrintLast Go.Proofs.YtndjeclnadpifaaDoorW.PrintMore
attribute [local go_sem] max2_int min2_int max_two min_two max_three min_three max_four min_four   -- for this text's walks alone
set_option linter.unusedVariables false
set_option linter.unusedSimpArgs false



def errW : Option Int → Value
  | none => .nilIface
  | some c => .iface 118 (.int .i64 c)
theorem errW_none : errW none = .nilIface := rfl
theorem errW_some (c : Int) : errW (some c) = .iface 118 (.int .i64 c) := rfl

theorem info2 : (Tryd.prog.info? 2).map (fun i => (i.zero, i.size, i.bytes)) = some (some (.int .i64 0), 1, 8) := by kernel_rfl
theorem info5 : (Tryd.prog.info? 5).map (fun i => (i.zero, i.size, i.bytes)) = some (some (.int .u8 0), 1, 1) := by kernel_rfl
theorem info9 : (Tryd.prog.info? 9).map (fun i => (i.zero, i.size, i.bytes)) = some (some (.string ⟨#[]⟩), 1, 16) := by kernel_rfl
-- the values' own types

end Go.Proofs.YtndjeclnadpifaaDoor.PFnMonths

-- The kit's printed words InvWords, cut down by prune.py to what these claims come to: FnVectorSums.
import Derived.Test.YtcnaocjhfgnphaaVInv
import Derived.Test.YtcnaocjhfgnphaaVFootNe
namespace Go.Proofs.YtcnaocjhfgnphaaW.PrintWords
open Go.RowKit
end Go.Proofs.YtcnaocjhfgnphaaW.PrintWords
namespace Go.Proofs.YtcnaocjhfgnphaaW.PrintLast
section
variable {ops : Array Oper} {a : Act} {o og : Oper} {g : Nat} {t : Tmp} {u : Bool}
end
end Go.Proofs.YtcnaocjhfgnphaaW.PrintLast

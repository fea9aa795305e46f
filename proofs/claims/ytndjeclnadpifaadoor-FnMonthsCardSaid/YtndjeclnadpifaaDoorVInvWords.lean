-- The kit's printed words InvWords, cut down by prune.py to what these claims come to: FnMonths.
import Derived.Test.YtndjeclnadpifaaDoorVInv
import Derived.Test.YtndjeclnadpifaaDoorVFootNe
namespace Go.Proofs.YtndjeclnadpifaaDoorW.PrintWords
open Go.RowKit
end Go.Proofs.YtndjeclnadpifaaDoorW.PrintWords
namespace Go.Proofs.YtndjeclnadpifaaDoorW.PrintLast
section
variable {ops : Array Oper} {a : Act} {o og : Oper} {g : Nat} {t : Tmp} {u : Bool}
end
end Go.Proofs.YtndjeclnadpifaaDoorW.PrintLast

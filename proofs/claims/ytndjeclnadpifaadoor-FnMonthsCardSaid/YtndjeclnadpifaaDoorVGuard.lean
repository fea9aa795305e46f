-- The kit's printed words Guard, cut down by prune.py to what these claims come to: FnMonths.
import Derived.Test.YtndjeclnadpifaaDoorVWords
/-! ### 58. A guarded operation whose guard is known to want it: the same goal without the guard -/
namespace Go.Proofs.YtndjeclnadpifaaDoorW.PrintWords
open Go.RowKit
section
variable {P : Program} {ops : Array Oper} {rest : List Oper} {o : Oper} {a : Act} {Q : Exit → Act → World → Prop} {W : World}
end
end Go.Proofs.YtndjeclnadpifaaDoorW.PrintWords

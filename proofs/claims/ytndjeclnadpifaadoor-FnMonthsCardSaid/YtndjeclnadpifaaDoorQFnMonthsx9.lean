-- The machine's side of the law FnMonths, its head: made by q.py out of the kit's own print.
import Derived.Test.YtndjeclnadpifaaDoorQFnMonthsx0
import Derived.Test.YtndjeclnadpifaaDoorQFnMonthsx8
namespace Go.Proofs.YtndjeclnadpifaaDoor.PFnMonths
open Go.RowKit Go.Proofs.YtndjeclnadpifaaDoorW.PrintWords Go.Proofs.YtndjeclnadpifaaDoorW.PrintLast Go.Proofs.YtndjeclnadpifaaDoorW.PrintMore
attribute [local go_sem] max2_int min2_int max_two min_two max_three min_three max_four min_four   -- for this text's walks alone
set_option linter.unusedVariables false
set_option linter.unusedSimpArgs false

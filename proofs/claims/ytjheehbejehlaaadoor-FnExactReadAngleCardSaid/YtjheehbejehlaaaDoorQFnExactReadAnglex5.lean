-- The machine's side of the law FnExactReadAngle, its head: made by q.py out of the kit's own print.
import Derived.Test.YtjheehbejehlaaaDoorQFnExactReadAnglex0
import Derived.Test.YtjheehbejehlaaaDoorQFnExactReadAnglex4
namespace Go.Proofs.YtjheehbejehlaaaDoor.PFnExactReadAngle
open Go.RowKit Go.Proofs.YtjheehbejehlaaaDoorW.PrintWords Go.Proofs.YtjheehbejehlaaaDoorW.PrintLast Go.Proofs.YtjheehbejehlaaaDoorW.PrintMore
attribute [local go_sem] max2_int min2_int max_two min_two max_three min_three max_four min_four   -- for this text's walks alone
set_option linter.unusedVariables false
set_option linter.unusedSimpArgs false

/- Proved: for every input the law FnExactConstants returns true. Conditions: none. -/
import Derived.Test.YtcjhpkknheddkaaPFnExactConstantsx1
namespace Go.Proofs.Ytcjhpkknheddkaa.Pure
open Go.RowKit Go.Proofs.Ytcjhpkknheddkaa.PFnExactConstants Go.Proofs.YtcjhpkknheddkaaW.PrintWords Go.Proofs.YtcjhpkknheddkaaW.PrintLast Go.Proofs.YtcjhpkknheddkaaW.PrintMore
set_option linter.unusedVariables false
set_option linter.unusedSimpArgs false



theorem FnExactConstants : laws_FnExactConstants.Pure := by
  rfl

end Go.Proofs.Ytcjhpkknheddkaa.Pure

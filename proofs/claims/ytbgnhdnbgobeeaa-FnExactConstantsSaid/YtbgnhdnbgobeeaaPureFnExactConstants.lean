/-
The law FnExactConstants holds of the printed plain functions, for all arguments that the printed bounds allow.
-/
import Derived.Test.YtbgnhdnbgobeeaaPFnExactConstantsx1
import Derived.Test.YtbgnhdnbgobeeaaTools
namespace Go.Proofs.Ytbgnhdnbgobeeaa.Pure
open Go.RowKit Go.Proofs.Ytbgnhdnbgobeeaa.PFnExactConstants Go.Proofs.YtbgnhdnbgobeeaaW.PrintWords Go.Proofs.YtbgnhdnbgobeeaaW.PrintLast Go.Proofs.YtbgnhdnbgobeeaaW.PrintMore Go.Proofs.Ytbgnhdnbgobeeaa.Tools
set_option linter.unusedVariables false

/-! ### FnExactConstants -/
theorem FnExactConstants : laws_FnExactConstants.Pure := rfl

end Go.Proofs.Ytbgnhdnbgobeeaa.Pure

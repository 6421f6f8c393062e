/- Each constant of the package has the value that the document tells: FnExactConstants answers true. Conditions: those of the printed statement alone (bounds on sizes that every input meets). -/
import Derived.Test.YtnmegminpimeaaaPFnExactConstantsx1
import Derived.Test.YtnmegminpimeaaaBase
namespace Go.Proofs.Ytnmegminpimeaaa.Pure
open Go.RowKit Go.Proofs.Ytnmegminpimeaaa.PFnExactConstants Go.Proofs.YtnmegminpimeaaaW.PrintWords Go.Proofs.YtnmegminpimeaaaW.PrintLast Go.Proofs.YtnmegminpimeaaaW.PrintMore Go.Proofs.Ytnmegminpimeaaa.Base
set_option linter.unusedVariables false
set_option linter.unusedSimpArgs false
namespace QFnExactConstants
theorem main : laws_FnExactConstants.Pure := by
  unfold laws_FnExactConstants.Pure laws_FnExactConstants.f
  decide
end QFnExactConstants
theorem FnExactConstants : laws_FnExactConstants.Pure := QFnExactConstants.main
end Go.Proofs.Ytnmegminpimeaaa.Pure

/- The law of the constants: the printed function comes to true. -/
import Derived.Test.YtmnkloghenjmoaaPFnExactConstantsx1
namespace Go.Proofs.Ytmnkloghenjmoaa.Pure
open Go.RowKit Go.Proofs.Ytmnkloghenjmoaa.PFnExactConstants Go.Proofs.YtmnkloghenjmoaaW.PrintWords Go.Proofs.YtmnkloghenjmoaaW.PrintLast
set_option linter.unusedVariables false
set_option linter.unusedSimpArgs false


theorem FnExactConstants : laws_FnExactConstants.Pure := by
  rfl

end Go.Proofs.Ytmnkloghenjmoaa.Pure

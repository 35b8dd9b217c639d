/- The law FnExactConstants, over numbers and lists: for every input that the statement speaks of the printed function answers true; conditions: those of the printed statement. -/
import Derived.Test.YtgmddhdlgbaagaaPFnExactConstantsx1
import Derived.Laws.BitsAllLaws
namespace Go.Proofs.Ytgmddhdlgbaagaa.Pure
open Go.RowKit Go.Proofs.Ytgmddhdlgbaagaa.PFnExactConstants Go.Proofs.YtgmddhdlgbaagaaW.PrintWords Go.Proofs.YtgmddhdlgbaagaaW.PrintLast
set_option linter.unusedVariables false
set_option linter.unusedSimpArgs false

theorem FnExactConstants : laws_FnExactConstants.Pure := rfl

end Go.Proofs.Ytgmddhdlgbaagaa.Pure

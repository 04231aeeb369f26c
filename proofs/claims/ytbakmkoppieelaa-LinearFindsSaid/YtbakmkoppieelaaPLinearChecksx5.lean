/- What is proved: contracts of the functions that the law uses, each under the conditions that its theorem states. Written by a program of this session: texts of the kit's print, and texts by hand for the functions that the print does not take. -/
import Derived.Test.YtbakmkoppieelaaPLinearChecksx0
import Derived.Test.YtbakmkoppieelaaPLinearChecksx2
import Derived.Test.YtbakmkoppieelaaPLinearChecksx3
import Derived.Test.YtbakmkoppieelaaPLinearChecksx4
namespace Go.Proofs.Ytbakmkoppieelaa.PLinearChecks
open Go.RowKit Go.Proofs.YtbakmkoppieelaaW.PrintWords Go.Proofs.YtbakmkoppieelaaW.PrintLast Go.Proofs.YtbakmkoppieelaaW.PrintMore
attribute [local go_sem] max2_int min2_int max_two min_two max_three min_three max_four min_four   -- for this text's walks alone
set_option linter.unusedVariables false
set_option linter.unusedSimpArgs false

/-! ### hawserref08_Check: function 80 -/
/-! ### hawserref26_plainOp: function 81 -/
/-! ### hawserref26_rightResult: function 82 -/
/-! ### hawserref26_rightRow: function 84 -/
end Go.Proofs.Ytbakmkoppieelaa.PLinearChecks

/- What is proved: contracts of functions that the law uses, each under the conditions that its theorem states. Texts of the kit's print, laid together by a program of this session. -/
import Derived.Test.YtbakmkoppieelaaLCelA
namespace Go.Proofs.Ytbakmkoppieelaa.PLinearChecks
open Go.RowKit Go.Proofs.YtbakmkoppieelaaW.PrintWords Go.Proofs.YtbakmkoppieelaaW.PrintLast Go.Proofs.YtbakmkoppieelaaW.PrintMore
set_option linter.unusedVariables false
set_option linter.unusedSimpArgs false
noncomputable section
/-! ### linear_cell_effect: function 125 -/
/-! ### linear_cell_happens: function 92 -/
end
end Go.Proofs.Ytbakmkoppieelaa.PLinearChecks

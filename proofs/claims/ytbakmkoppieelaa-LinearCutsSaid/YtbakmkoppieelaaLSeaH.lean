/- What is proved: what a call does to what stands under its key. -/
import Derived.Test.YtbakmkoppieelaaLCelB
import Derived.Test.YtbakmkoppieelaaLSeaK
namespace Go.Proofs.Ytbakmkoppieelaa.PLinearChecks
open Go.RowKit Go.Proofs.YtbakmkoppieelaaW.PrintWords Go.Proofs.YtbakmkoppieelaaW.PrintLast Go.Proofs.YtbakmkoppieelaaW.PrintMore
set_option linter.unusedVariables false
set_option linter.unusedSimpArgs false
end Go.Proofs.Ytbakmkoppieelaa.PLinearChecks

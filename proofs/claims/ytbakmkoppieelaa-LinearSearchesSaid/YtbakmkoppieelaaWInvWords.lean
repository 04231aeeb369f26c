-- Printed by print.sh, then cut by strip.py: what this claim never names is left out
import Derived.Test.YtbakmkoppieelaaWInv
import Derived.Test.YtbakmkoppieelaaWFootNe
namespace Go.Proofs.YtbakmkoppieelaaW.PrintWords
open Go.RowKit
end Go.Proofs.YtbakmkoppieelaaW.PrintWords
namespace Go.Proofs.YtbakmkoppieelaaW.PrintLast
section
variable {ops : Array Oper} {a : Act} {o og : Oper} {g : Nat} {t : Tmp} {u : Bool}
end
end Go.Proofs.YtbakmkoppieelaaW.PrintLast

/- What is proved: whether a call was answered; what is cut off a history. -/
import Derived.Test.YtbakmkoppieelaaLStub
namespace Go.Proofs.Ytbakmkoppieelaa.PLinearChecks
open Go.RowKit Go.Proofs.YtbakmkoppieelaaW.PrintWords Go.Proofs.YtbakmkoppieelaaW.PrintLast Go.Proofs.YtbakmkoppieelaaW.PrintMore
set_option linter.unusedVariables false
set_option linter.unusedSimpArgs false
/-- A call as it was known ahead of a row. -/
def cutC (row : Int) (c : S39) : S39 := if c.f6 ≥ row then ⟨c.f0, c.f1, c.f2, c.f3, c.f4, c.f5, -1, ⟨0, 0⟩, ⟨⟨#[]⟩, ⟨#[]⟩, 0⟩, false⟩ else c
/-- The program's cut: up to the first that begins too late. -/
def cutT (row : Int) : List S39 → List S39
  | [] => []
  | c :: t => if c.f5 ≥ row then [] else cutC row c :: cutT row t
end Go.Proofs.Ytbakmkoppieelaa.PLinearChecks

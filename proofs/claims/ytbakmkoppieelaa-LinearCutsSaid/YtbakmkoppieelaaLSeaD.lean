/- What is proved: the search for a witness, in plain words: it finds one just if there is one. -/
import Derived.Test.YtbakmkoppieelaaLSeaB
namespace Go.Proofs.Ytbakmkoppieelaa.PLinearChecks
open Go.RowKit Go.Proofs.YtbakmkoppieelaaW.PrintWords Go.Proofs.YtbakmkoppieelaaW.PrintLast Go.Proofs.YtbakmkoppieelaaW.PrintMore
set_option linter.unusedVariables false
set_option linter.unusedSimpArgs false
/-! #### what stands under a key -/
structure SC where
  f0 : Bool
  f1 : ByteArray
  f2 : Int
  f3 : Int
  f4 : Int
def zC : SC := ⟨false, ⟨#[]⟩, 0, 0, 0⟩
/-- What stands under all keys. -/
def KF := List UInt8 → SC
def zK : KF := fun _ => zC
def cl (l : List S39) (i : Nat) : S39 := l.getD i z39
theorem rd_cl (l : List S39) (i : Nat) : rd_T39 l (i : Int) = cl l i := rfl
theorem rd_cl' (l : List S39) (i : Int) : rd_T39 l i = cl l i.toNat := rfl
end Go.Proofs.Ytbakmkoppieelaa.PLinearChecks

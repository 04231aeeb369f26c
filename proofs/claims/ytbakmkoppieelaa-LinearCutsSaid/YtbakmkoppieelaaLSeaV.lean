/- What is proved: one round of the search's run, the run below it given. -/
import Derived.Test.YtbakmkoppieelaaLSeaU
namespace Go.Proofs.Ytbakmkoppieelaa.PLinearChecks
open Go.RowKit Go.Proofs.YtbakmkoppieelaaW.PrintWords Go.Proofs.YtbakmkoppieelaaW.PrintLast Go.Proofs.YtbakmkoppieelaaW.PrintMore
set_option linter.unusedVariables false
set_option linter.unusedSimpArgs false
def run.B6 : List Nat := [0, 1, 3, 7, 0, 31, 63, 127, 255, 511, 1023, 2047, 4095, 8191, 16383, 32767, 65535, 131071, 262143, 524287, 1048575, 2097151, 262143, 4456447, 12845055, 29622271, 262143, 134217727, 268435455, 536870911]
def run.T7 : Bool × List (List Nat × List Nat) := (true, [([], []), ([0], [0]), ([1], [1]), ([2], [2]), ([], []), ([3, 4], [3, 4]), ([5], [5]), ([6], [6]), ([6], [6]), ([], []), ([9, 7, 5, 0, 1, 2, 3, 4, 5, 6, 7, 9], [7, 9]), ([8, 10, 0, 1, 2, 3, 4, 5, 6, 7, 8, 9, 10], [8])])
def run.B7 : List Nat := [0, 1, 3, 7, 0, 31, 63, 127, 127, 0, 767, 2047]
theorem run.tab7 : rtab .any (opsOf Try.f91 7) = run.T7 := by kernel_rfl
theorem run.bits7 : waitsOk run.T7.2 run.B7 = true := by kernel_rfl
def run.T13 : Bool × List (List Nat × List Nat) := (true, [([], []), ([0], [0]), ([1], [1]), ([2], [2]), ([], []), ([4], [4]), ([], []), ([3, 5, 6, 0, 1, 2, 3, 4, 5, 6], [3, 5, 6])])
def run.B13 : List Nat := [0, 1, 3, 7, 0, 16, 0, 127]
theorem run.tab13 : rtab .any (opsOf Try.f91 13) = run.T13 := by kernel_rfl
theorem run.bits13 : waitsOk run.T13.2 run.B13 = true := by kernel_rfl
end Go.Proofs.Ytbakmkoppieelaa.PLinearChecks

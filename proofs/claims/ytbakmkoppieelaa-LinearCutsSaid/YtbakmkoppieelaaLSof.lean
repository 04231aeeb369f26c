/- What is proved: the law LinearSoFar returns true. -/
import Derived.Test.YtbakmkoppieelaaLCut
import Derived.Test.YtbakmkoppieelaaLSeaC
namespace Go.Proofs.Ytbakmkoppieelaa.PLinearChecks
open Go.RowKit Go.Proofs.YtbakmkoppieelaaW.PrintWords Go.Proofs.YtbakmkoppieelaaW.PrintLast Go.Proofs.YtbakmkoppieelaaW.PrintMore
set_option linter.unusedVariables false
set_option linter.unusedSimpArgs false
theorem cut_use {w : World} {l k : List S39} {row n : Int} (h1 : cutLL l row = k) (h2 : cutEE l row = n) {e : Ending} {w' : World} (h : CutTo w l row e w') : ∃ v, e = .returned (.tuple #[v, .int .i64 n]) ∧ Kd.R k39 39 w' w.heap.size (fun _ => True) v k ∧ Below w.heap.size w w' := by
  unfold CutTo at h
  rw [h1, h2] at h
  exact h
theorem ok_of {l : List S39} (h : refF l = 0) : okTo l l.length := by
  unfold refF at h
  split at h
  · assumption
  · exact absurd h (by decide)
end Go.Proofs.Ytbakmkoppieelaa.PLinearChecks

/- What is proved: the contract of the reference's New; the conditions stand in the theorem. -/
import Derived.Test.YtcjhephlhgpfkaaRShaE
namespace Go.Proofs.Ytcjhephlhgpfkaa.Sha
open Go.RowKit
set_option linter.unusedVariables false
set_option linter.unusedSimpArgs false
def RNewPost (w : World) (e : Ending) (w' : World) : Prop := ∃ g, e = .returned (.pointer (some ⟨g, 0, none⟩)) ∧ w.heap.size ≤ g ∧ w'.heap[g]? = some (.cells (Hr beginS (.slice none 0 0) 0) 65 (0, 0)) ∧ Below w.heap.size w w'
set_option maxRecDepth 100000 in
set_option maxHeartbeats 1000000 in
theorem rnew_any (w : World) : Calls Try.prog 20 #[] w (RNewPost w) := by
  go_enter Try.func20, Try.ntmps20
  go_wp2_with (go_at_call 29; refine (rbegin_any _).mono ?_; rintro e w2 ⟨rfl, hb2⟩)
  go_ret
  have hz := hb2.size
  exact ⟨w2.heap.size, rfl, hz, heap_alloc_new w2 _, (hb2).alloc hz _⟩
end Go.Proofs.Ytcjhephlhgpfkaa.Sha

/- What is proved: both Checks in the print's own shape; the conditions stand in their theorems. -/
import Derived.Test.YtbakmkoppieelaaLWalk
namespace Go.Proofs.Ytbakmkoppieelaa.PLinearChecks
open Go.RowKit Go.Proofs.YtbakmkoppieelaaW.PrintWords Go.Proofs.YtbakmkoppieelaaW.PrintLast Go.Proofs.YtbakmkoppieelaaW.PrintMore
open Classical in
noncomputable def linear_Check.f (l0 : List S39) : Option Int := if l0.length ≤ 1000000000000 ∧ ∀ x ∈ l0, wfC x then some (refF l0) else none
theorem linear_Check.calls (A0 : Option Addr) (c0 : Nat) (l0 : List S39) (r : Int) (w : World) (hr0 : Kd.C k39 w A0 l0.length l0) (hc0 : l0.length ≤ c0) (h : linear_Check.f l0 = some r) :
    Calls Try.prog 16 #[.slice A0 l0.length c0] w fun e w' => e = .returned (.int .i64 r) ∧ Below w.heap.size w w' := by
  unfold linear_Check.f at h
  split at h
  · rename_i hh
    obtain rfl := Option.some.inj h
    exact lcheck_any w A0 c0 l0 hr0 hc0 hh.1 hh.2
  · cases h
end Go.Proofs.Ytbakmkoppieelaa.PLinearChecks

/- What is proved: whether a call was answered; what is cut off a history. -/
import Derived.Test.YtbakmkoppieelaaLStub
namespace Go.Proofs.Ytbakmkoppieelaa.PLinearChecks
open Go.RowKit Go.Proofs.YtbakmkoppieelaaW.PrintWords Go.Proofs.YtbakmkoppieelaaW.PrintLast Go.Proofs.YtbakmkoppieelaaW.PrintMore
set_option linter.unusedVariables false
set_option linter.unusedSimpArgs false
theorem ans_any (c : S39) (w : World) : Calls Try.prog 42 #[.agg #[.int .i64 c.f0, .int .i64 c.f1, .bool c.f2, .string c.f3, .int .i64 c.f4.f0, .string c.f4.f1, .string c.f4.f2, .int .i64 c.f4.f3, .int .i64 c.f5, .int .i64 c.f6, .int .i64 c.f7.f0, .int .i64 c.f7.f1, .string c.f8.f0, .string c.f8.f1, .int .i64 c.f8.f2, .bool c.f9]] w fun e w' => e = .returned (.bool (ansB c)) ∧ Below w.heap.size w w' :=
  answered_any c.f0 c.f1 c.f2 c.f3 c.f4.f0 c.f4.f1 c.f4.f2 c.f4.f3 c.f5 c.f6 c.f7.f0 c.f7.f1 c.f8.f0 c.f8.f1 c.f8.f2 c.f9 _ rfl w
theorem info3 : (Try.prog.info? 3).map (fun i => (i.zero, i.size, i.bytes)) = some (some (.int .i64 0), 1, 8) := by kernel_rfl
end Go.Proofs.Ytbakmkoppieelaa.PLinearChecks

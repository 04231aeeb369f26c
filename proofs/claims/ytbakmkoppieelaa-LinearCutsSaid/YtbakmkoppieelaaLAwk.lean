/- What is proved: the program takes a history and refuses a reading of what never was; the law LinearNames returns true. -/
import Derived.Test.YtbakmkoppieelaaLSeaX
namespace Go.Proofs.Ytbakmkoppieelaa.PLinearChecks
open Go.RowKit Go.Proofs.YtbakmkoppieelaaW.PrintWords Go.Proofs.YtbakmkoppieelaaW.PrintLast Go.Proofs.YtbakmkoppieelaaW.PrintMore
set_option linter.unusedVariables false
set_option linter.unusedSimpArgs false
theorem one_rep (W : World) (base : Nat) (x : S39) : Reps (k39.M W base (fun _ => True)) k39.sz [x] (callL x) := by
  have h := Reps.front (show Kd.M k39 W base (fun _ => True) x (callL x) from k39_mkM _ _ _ x) rfl (Reps.none (k39.M W base (fun _ => True)) k39.sz) rfl
  rw [List.append_nil] at h
  exact h
theorem one_R (W : World) (x : S39) : Kd.R k39 39 (W.alloc (.cells (callL x).toArray 39)) W.heap.size (fun _ => True) (.slice (some ⟨W.heap.size, 0, none⟩) 1 1) [x] := by
  refine ⟨fun k hk => trivial, callL x, ?_, ?_⟩
  · have h2 := World.ownsRow_lit (base := W.heap.size) (e := 39) (size := k39.sz) W (callL x).toArray 1 (Nat.le_refl _) (by decide) (by rfl)
    have h3 : (W.alloc (.cells (callL x).toArray 39)).ownsRow W.heap.size 39 k39.sz (.slice (some ⟨W.heap.size, 0, none⟩) 1 1) 1 (callL x) := by simpa using h2
    exact h3
  · refine (one_rep W W.heap.size x).imp_ (fun p c hp => k39.M_mono (fun k hk => ⟨trivial, fun he => ?_⟩) (Kd.M_below (k39.M_bound hp) (below_alloc (Below.refl _ _) _)))
    have h3 : k = W.heap.size := by simpa [Value.ownBlock] using he
    have := hk.2.2.1
    omega
theorem one_C (W : World) (x : S39) : Kd.C k39 (W.alloc (.cells (callL x).toArray 39)) (some ⟨W.heap.size, 0, none⟩) 1 [x] := (Kd.R_reads' (one_R W x)).2.2
end Go.Proofs.Ytbakmkoppieelaa.PLinearChecks

/- What is proved: a history's witness leaves one for what was known of it ahead of any row. -/
import Derived.Test.YtbakmkoppieelaaLSeaD
namespace Go.Proofs.Ytbakmkoppieelaa.PLinearChecks
open Go.RowKit Go.Proofs.YtbakmkoppieelaaW.PrintWords Go.Proofs.YtbakmkoppieelaaW.PrintLast Go.Proofs.YtbakmkoppieelaaW.PrintMore
set_option linter.unusedVariables false
set_option linter.unusedSimpArgs false
/-! #### what a longer history's witness tells of a shorter one's -/
theorem cutT_le (row : Int) (l : List S39) : (cutT row l).length ≤ l.length := by
  induction l with
  | nil => exact Nat.le_refl _
  | cons c t ih =>
    rw [cutT]
    split
    · exact Nat.zero_le _
    · exact Nat.succ_le_succ ih
theorem ok_lt {l : List S39} (h : okTo l l.length) : ∀ i k, i < k → k < l.length → (cl l i).f5 < (cl l k).f5 := by
  intro i k hik
  induction k with
  | zero => omega
  | succ k ih =>
    intro hk
    have h1 := (h ((k + 1 : Nat) : Int) (by omega) (by omega)).1
    unfold bad1 at h1
    simp only [Bool.or_eq_false_iff, Bool.and_eq_false_iff, decide_eq_false_iff_not] at h1
    have h2 : (cl l k).f5 < (cl l (k + 1)).f5 := by
      have e : rd_T39 l (((k + 1 : Nat) : Int) - 1) = cl l k := by rw [rd_cl', show (((k + 1 : Nat) : Int) - 1).toNat = k by omega]
      rw [e, rd_cl] at h1
      rcases h1.2 with q | q <;> omega
    by_cases e : i = k
    · subst e; exact h2
    · have := ih (by omega) (by omega)
      omega
end Go.Proofs.Ytbakmkoppieelaa.PLinearChecks

/- What is proved: a history's witness leaves one for what was known of it ahead of any row. -/
import Derived.Test.YtbakmkoppieelaaLSeaD
namespace Go.Proofs.Ytbakmkoppieelaa.PLinearChecks
open Go.RowKit Go.Proofs.YtbakmkoppieelaaW.PrintWords Go.Proofs.YtbakmkoppieelaaW.PrintLast Go.Proofs.YtbakmkoppieelaaW.PrintMore
set_option linter.unusedVariables false
set_option linter.unusedSimpArgs false
/-! #### what a longer history's witness tells of a shorter one's -/
def bigM : Int := 1152921504606846976
theorem wi_of {a lo hi : Int} (h : wiB a lo hi = true) : lo ≤ a ∧ a ≤ hi := by
  unfold wiB at h
  split at h
  · exact ⟨by omega, of_decide_eq_true h⟩
  · cases h
theorem may_update {x : S39} (h : mayB x = true) (hr : x.f2 = false) : (0 ≤ x.f4.f3 ∧ x.f4.f3 ≤ bigM) ∧ (ansB x = true → (x.f7.f0 = 1 ∧ 1 ≤ x.f7.f1 ∧ x.f7.f1 ≤ bigM) ∨ x.f7.f0 = 2 ∨ (x.f7.f0 = 3 ∧ 0 ≤ x.f7.f1 ∧ x.f7.f1 ≤ bigM) ∨ x.f7.f0 = 4) ∧ (ansB x = false → x.f7.f1 = 0 ∧ x.f7.f0 = 0) := by
  unfold mayB mayB16 updB opB at h
  rw [hr] at h
  simp only [Bool.and_eq_true, Bool.false_eq_true, if_false] at h
  obtain ⟨-, -, -, -, ⟨-, h3, -⟩, -, -, -, h5⟩ := h
  refine ⟨wi_of h3, fun ha => ?_, fun ha => ?_⟩
  · unfold ansB at ha
    rw [if_pos ha] at h5
    unfold resB at h5
    split at h5
    · rename_i e
      exact Or.inl ⟨e, wi_of h5⟩
    · split at h5
      · rename_i e
        exact Or.inr (Or.inl e)
      · split at h5
        · rename_i e
          simp only [Bool.and_eq_true] at h5
          exact Or.inr (Or.inr (Or.inl ⟨e, wi_of h5.1.2⟩))
        · split at h5
          · rename_i e
            exact Or.inr (Or.inr (Or.inr e))
          · cases h5
  · unfold ansB at ha
    rw [if_neg (by simp [ha])] at h5
    unfold resZ at h5
    simp at h5
    exact ⟨h5.2, h5.1⟩
theorem may_read {x : S39} (h : mayB x = true) (hr : x.f2 = true) (hf : x.f9 = true) : 1 ≤ x.f8.f2 ∧ x.f8.f2 ≤ bigM := by
  unfold mayB mayB16 readB at h
  rw [hr, hf] at h
  simp only [Bool.and_eq_true, if_true] at h
  exact wi_of h.2.2.2.2.2.2.2.2.2.2
end Go.Proofs.Ytbakmkoppieelaa.PLinearChecks

/- What is proved: what a call does to what stands under its key. -/
import Derived.Test.YtbakmkoppieelaaLCelB
import Derived.Test.YtbakmkoppieelaaLSeaK
namespace Go.Proofs.Ytbakmkoppieelaa.PLinearChecks
open Go.RowKit Go.Proofs.YtbakmkoppieelaaW.PrintWords Go.Proofs.YtbakmkoppieelaaW.PrintLast Go.Proofs.YtbakmkoppieelaaW.PrintMore
set_option linter.unusedVariables false
set_option linter.unusedSimpArgs false
theorem settle_f (c : SC) (v : Int) : linear_cell_settle.f c.f0 c.f1 c.f2 c.f3 c.f4 v = some ((setF c v).1.f0, (setF c v).1.f1, (setF c v).1.f2, (setF c v).1.f3, (setF c v).1.f4, (setF c v).2) := by
  unfold linear_cell_settle.f setF
  cases h : c.f0
  · simp [h]
  · by_cases h2 : c.f2 > 0
    · simp [h, h2]
    · by_cases h3 : v < wrap64 (c.f3 + c.f4)
      · simp [h, h2, h3]
      · simp [h, h2, h3]
theorem effect_f (c : SC) (t : Bool) (va : ByteArray) (n : Int) : linear_cell_effect.f c.f0 c.f1 c.f2 c.f3 c.f4 t va n = some ((effF c t va n).1.f0, (effF c t va n).1.f1, (effF c t va n).1.f2, (effF c t va n).1.f3, (effF c t va n).1.f4, (effF c t va n).2) := by
  unfold linear_cell_effect.f linear_cell_next.f effF
  by_cases h : n = 0
  · simp [h]
  · by_cases h3 : n < wrap64 (wrap64 (c.f3 + c.f4) + 1)
    · simp [h, h3]
    · simp [h, h3]
theorem do_j1 (k : Nat) (c : SC) (x : S39) (n : Int) : linear_cell_happens.j1 (k + 1) n c.f0 c.f1 c.f2 c.f3 c.f4 x.f0 x.f1 x.f2 x.f3 x.f4.f0 x.f4.f1 x.f4.f2 x.f4.f3 x.f5 x.f6 x.f7.f0 x.f7.f1 x.f8.f0 x.f8.f1 x.f8.f2 x.f9 = some ((doF c x n).1.f0, (doF c x n).1.f1, (doF c x n).1.f2, (doF c x n).1.f3, (doF c x n).1.f4, (doF c x n).2) := by
  rw [linear_cell_happens.j1]
  unfold doF
  by_cases h : x.f4.f0 = 2
  · rw [if_pos h, if_pos h]
    cases h0 : c.f0
    · simp [h0]
    · have e := effect_f c false ⟨#[]⟩ n
      rw [h0] at e
      rw [if_pos rfl, e]
      rfl
  · rw [if_neg h, if_neg h]
    by_cases h3 : x.f4.f0 = 3
    · rw [if_pos h3, if_pos h3, settle_f, Option.bind_some]
      by_cases h4 : (setF c x.f4.f3).2 = true
      · rw [if_pos h4, if_pos h4, effect_f]
        rfl
      · rw [if_neg h4, if_neg h4]
    · rw [if_neg h3, if_neg h3, effect_f]
      rfl
theorem hap_f (c : SC) (x : S39) : linear_cell_happens.f 2 c.f0 c.f1 c.f2 c.f3 c.f4 x.f0 x.f1 x.f2 x.f3 x.f4.f0 x.f4.f1 x.f4.f2 x.f4.f3 x.f5 x.f6 x.f7.f0 x.f7.f1 x.f8.f0 x.f8.f1 x.f8.f2 x.f9 = some ((hapF c x).1.f0, (hapF c x).1.f1, (hapF c x).1.f2, (hapF c x).1.f3, (hapF c x).1.f4, (hapF c x).2) := by
  unfold linear_cell_happens.f hapF linear_answered.f
  by_cases h2 : x.f2 = true
  · rw [if_pos h2, if_pos h2]
    cases h9 : x.f9
    · simp
    · simp only [if_true, Bool.true_eq_false, if_false]
      cases h0 : c.f0
      · simp [h0]
      · by_cases h1 : c.f1.toList = x.f8.f1.toList
        · have e := settle_f c x.f8.f2
          rw [h0] at e
          simp [h1, e]
        · simp [h1, h0]
  · rw [if_neg h2, if_neg h2, Option.bind_some]
    unfold ansB
    by_cases ha : (x.f6 != -1) = true
    · rw [if_pos ha, if_pos ha]
      by_cases h4 : x.f7.f0 = 4
      · rw [if_pos h4, if_pos h4, linear_cell_happens.j0]
        simp [h4]
      · rw [if_neg h4, if_neg h4, linear_cell_happens.j0]
        by_cases h5 : x.f7.f0 = 2
        · simp [h5]
        · rw [if_neg (by simpa using h5), if_neg h5]
          by_cases h6 : x.f7.f0 = 3
          · rw [if_pos h6, if_pos h6, settle_f]
            rfl
          · rw [if_neg h6, if_neg h6, do_j1]
    · rw [if_neg ha, if_neg ha, do_j1]
theorem hap_any (c : SC) (x : S39) (d : SC) (r : Bool) (h : hapF c x = (d, r)) (w : World) : Calls Try.prog 92 #[.agg #[.bool c.f0, .string c.f1, .int .i64 c.f2, .int .i64 c.f3, .int .i64 c.f4], .agg #[.int .i64 x.f0, .int .i64 x.f1, .bool x.f2, .string x.f3, .int .i64 x.f4.f0, .string x.f4.f1, .string x.f4.f2, .int .i64 x.f4.f3, .int .i64 x.f5, .int .i64 x.f6, .int .i64 x.f7.f0, .int .i64 x.f7.f1, .string x.f8.f0, .string x.f8.f1, .int .i64 x.f8.f2, .bool x.f9]] w fun e w' => e = .returned (.tuple #[.agg #[.bool d.f0, .string d.f1, .int .i64 d.f2, .int .i64 d.f3, .int .i64 d.f4], .bool r]) ∧ Below w.heap.size w w' := by
  have e := hap_f c x
  rw [h] at e
  exact linear_cell_happens.calls 2 c.f0 c.f1 c.f2 c.f3 c.f4 x.f0 x.f1 x.f2 x.f3 x.f4.f0 x.f4.f1 x.f4.f2 x.f4.f3 x.f5 x.f6 x.f7.f0 x.f7.f1 x.f8.f0 x.f8.f1 x.f8.f2 x.f9 d.f0 d.f1 d.f2 d.f3 d.f4 r w e
end Go.Proofs.Ytbakmkoppieelaa.PLinearChecks

/- What is proved: the plain statement of the law ProbeBounds (the program's bound and the document's agree, for any two numbers), without conditions. -/
import Derived.Test.YtfgekokbcegopaaPProbeBoundsx1
namespace Go.Proofs.Ytfgekokbcegopaa.Pure
set_option linter.unusedSimpArgs false
open Go.RowKit Go.Proofs.Ytfgekokbcegopaa.PProbeBounds Go.Proofs.YtfgekokbcegopaaW.PrintWords Go.Proofs.YtfgekokbcegopaaW.PrintLast

theorem wid {n : Int} (h : -9223372036854775808 ≤ n ∧ n ≤ 9223372036854775807) : wrap64 n = n := by unfold wrap64; omega
theorem s0 : shl .i64 1 0 = 1 := by decide
theorem s4 : shl .i64 1 4 = 16 := by decide
theorem s8 : shl .i64 1 8 = 256 := by decide
theorem s12 : shl .i64 1 12 = 4096 := by decide
theorem mnl {a b : Int} (h : a ≤ b) : mn a b = a := by unfold mn; rw [if_neg (by omega)]
theorem mnr {a b : Int} (h : b ≤ a) : mn a b = b := by unfold mn; split <;> omega

theorem both (d u : Int) : ∃ r c, probe_Bound.f 20 d u = some (r, c) ∧ hawserref11_Bound.f 20 d u = some (r, c) := by
  by_cases h1 : d < 1
  · exact ⟨0, 1, by simp [probe_Bound.f, h1, probe_Bound.j0], by simp [hawserref11_Bound.f, h1, hawserref11_Bound.j0]⟩
  by_cases h3 : d > 3
  · exact ⟨0, 1, by simp [probe_Bound.f, h1, h3, probe_Bound.j0], by simp [hawserref11_Bound.f, h1, h3, hawserref11_Bound.j0]⟩
  have hd : d = 1 ∨ d = 2 ∨ d = 3 := by omega
  by_cases hu : u < 0
  · rcases hd with rfl | rfl | rfl <;> exact ⟨0, 1, by simp [probe_Bound.f, hu, probe_Bound.j0], by simp (disch := omega) [hawserref11_Bound.f, hu, hawserref11_Bound.j0, hawserref11_Bound.l0, hawserref11_Bound.j2, wid]⟩
  by_cases hz : u = 0
  · subst hz
    rcases hd with rfl | rfl | rfl <;> exact ⟨1, 0, by decide +kernel, by decide +kernel⟩
  rcases hd with rfl | rfl | rfl
  · by_cases h : u > 16
    · exact ⟨0, 1, by simp (disch := omega) [probe_Bound.f, hu, probe_Bound.j0, wid, s4, h], by simp (disch := omega) [hawserref11_Bound.f, hu, hawserref11_Bound.j0, hawserref11_Bound.l0, hawserref11_Bound.j2, wid, h]⟩
    · exact ⟨17, 0, by simp (disch := omega) [probe_Bound.f, hu, probe_Bound.j0, probe_Bound.l0, wid, s0, s4, s8, s12, h, mnr (show (1 : Int) ≤ u by omega)]; try omega, by simp (disch := omega) [hawserref11_Bound.f, hu, hz, hawserref11_Bound.j0, hawserref11_Bound.l0, hawserref11_Bound.j2, hawserref11_Bound.l1, wid, show ¬ u < 1 by omega, h]; try omega⟩
  · by_cases h : u > 256
    · exact ⟨0, 1, by simp (disch := omega) [probe_Bound.f, hu, probe_Bound.j0, wid, s8, h], by simp (disch := omega) [hawserref11_Bound.f, hu, hawserref11_Bound.j0, hawserref11_Bound.l0, hawserref11_Bound.j2, wid, h]⟩
    by_cases g : u < 16
    · exact ⟨17 + 16 * u, 0, by simp (disch := omega) [probe_Bound.f, hu, probe_Bound.j0, probe_Bound.l0, wid, s0, s4, s8, s12, h, mnr (show (1 : Int) ≤ u by omega), mnl (show u ≤ 16 by omega)]; try omega, by simp (disch := omega) [hawserref11_Bound.f, hu, hz, hawserref11_Bound.j0, hawserref11_Bound.l0, hawserref11_Bound.j2, hawserref11_Bound.l1, wid, show ¬ u < 1 by omega, h, g]; try omega⟩
    · exact ⟨273, 0, by simp (disch := omega) [probe_Bound.f, hu, probe_Bound.j0, probe_Bound.l0, wid, s0, s4, s8, s12, h, mnr (show (1 : Int) ≤ u by omega), mnr (show 16 ≤ u by omega)]; try omega, by simp (disch := omega) [hawserref11_Bound.f, hu, hz, hawserref11_Bound.j0, hawserref11_Bound.l0, hawserref11_Bound.j2, hawserref11_Bound.l1, wid, show ¬ u < 1 by omega, h, g]; try omega⟩
  · by_cases h : u > 4096
    · exact ⟨0, 1, by simp (disch := omega) [probe_Bound.f, hu, probe_Bound.j0, wid, s12, h], by simp (disch := omega) [hawserref11_Bound.f, hu, hawserref11_Bound.j0, hawserref11_Bound.l0, hawserref11_Bound.j2, wid, h]⟩
    by_cases g : u < 16
    · exact ⟨17 + 32 * u, 0, by simp (disch := omega) [probe_Bound.f, hu, probe_Bound.j0, probe_Bound.l0, wid, s0, s4, s8, s12, h, mnr (show (1 : Int) ≤ u by omega), mnl (show u ≤ 16 by omega), mnl (show u ≤ 256 by omega)]; try omega, by simp (disch := omega) [hawserref11_Bound.f, hu, hz, hawserref11_Bound.j0, hawserref11_Bound.l0, hawserref11_Bound.j2, hawserref11_Bound.l1, wid, show ¬ u < 1 by omega, h, g, show u < 256 by omega]; try omega⟩
    by_cases k : u < 256
    · exact ⟨273 + 16 * u, 0, by simp (disch := omega) [probe_Bound.f, hu, probe_Bound.j0, probe_Bound.l0, wid, s0, s4, s8, s12, h, mnr (show (1 : Int) ≤ u by omega), mnr (show 16 ≤ u by omega), mnl (show u ≤ 256 by omega)]; try omega, by simp (disch := omega) [hawserref11_Bound.f, hu, hz, hawserref11_Bound.j0, hawserref11_Bound.l0, hawserref11_Bound.j2, hawserref11_Bound.l1, wid, show ¬ u < 1 by omega, h, g, k]; try omega⟩
    · exact ⟨4369, 0, by simp (disch := omega) [probe_Bound.f, hu, probe_Bound.j0, probe_Bound.l0, wid, s0, s4, s8, s12, h, mnr (show (1 : Int) ≤ u by omega), mnr (show 16 ≤ u by omega), mnr (show 256 ≤ u by omega)]; try omega, by simp (disch := omega) [hawserref11_Bound.f, hu, hz, hawserref11_Bound.j0, hawserref11_Bound.l0, hawserref11_Bound.j2, hawserref11_Bound.l1, wid, show ¬ u < 1 by omega, h, g, k]; try omega⟩

theorem ProbeBounds : hawserlaw11_ProbeBounds.Pure := by
  intro d u _ _
  obtain ⟨r, c, h1, h2⟩ := both d u
  refine ⟨20, ?_⟩
  unfold hawserlaw11_ProbeBounds.f
  rw [h1, h2, show probe_Bound.f 20 2 256 = some (273, 0) by decide +kernel]
  simp

end Go.Proofs.Ytfgekokbcegopaa.Pure

/- What is proved: the plain law of SpanBuckets: what the printed functions compute answers as the statement says; the conditions are the sizes that every argument has. -/
import Derived.Test.YtijlanhhelichaaDoorPSpanBucketsx4
namespace Go.Proofs.YtijlanhhelichaaDoor.Pure
open Go.RowKit Go.Proofs.YtijlanhhelichaaDoor.PSpanBuckets Go.Proofs.YtijlanhhelichaaDoorW.PrintWords Go.Proofs.YtijlanhhelichaaDoorW.PrintLast
set_option linter.unusedVariables false
set_option linter.unusedSimpArgs false
def sameAt (d : Int) (b : Nat) : Bool := match span_least.f d b, hawserref06_least.f 19 d b with
  | some x, some y => x.data.toList == y.data.toList
  | _, _ => false
theorem least_1 : (List.range 16).all (sameAt 1) = true := by decide +kernel
theorem least_2 : (List.range 256).all (sameAt 2) = true := by decide +kernel
theorem least_3 : (List.range 4096).all (sameAt 3) = true := by decide +kernel
theorem same_of {d : Int} {b : Nat} (h : sameAt d b = true) : ∃ x y, span_least.f d b = some x ∧ hawserref06_least.f 19 d b = some y ∧ x.toList = y.toList := by
  unfold sameAt at h
  split at h
  · rename_i x y h1 h2
    refine ⟨x, y, h1, h2, ?_⟩
    rw [ByteArray.toList_eq, ByteArray.toList_eq]
    exact eq_of_beq h
  · cases h
theorem leasts (d b : Int) (hd : d = 1 ∨ d = 2 ∨ d = 3) (h0 : 0 ≤ b) (h : b < cntD d) : ∃ x y, span_least.f d b = some x ∧ hawserref06_least.f 19 d b = some y ∧ x.toList = y.toList := by
  obtain ⟨n, rfl⟩ := Int.eq_ofNat_of_zero_le h0
  rcases hd with rfl | rfl | rfl
  · exact same_of (List.all_eq_true.1 least_1 n (List.mem_range.2 (by have : cntD 1 = 16 := rfl; omega)))
  · exact same_of (List.all_eq_true.1 least_2 n (List.mem_range.2 (by have : cntD 2 = 256 := rfl; omega)))
  · exact same_of (List.all_eq_true.1 least_3 n (List.mem_range.2 (by have : cntD 3 = 4096 := rfl; omega)))
theorem count_in (d : Int) (hd : d = 1 ∨ d = 2 ∨ d = 3) : span_count.f 20 d = some (cntD d) ∧ hawserref06_count.f 20 d = some (cntD d) ∧ cntD d ≠ 0 ∧ 0 < cntD d ∧ cntD d ≤ 4096 := by
  rcases hd with rfl | rfl | rfl <;> exact ⟨by decide +kernel, by decide +kernel, by decide, by decide, by decide⟩
theorem count_out (d : Int) (hd : ¬ (d = 1 ∨ d = 2 ∨ d = 3)) : span_count.f 20 d = some 0 ∧ hawserref06_count.f 20 d = some 0 := by
  unfold span_count.f hawserref06_count.f
  by_cases h1 : d < 1
  · rw [if_pos h1, if_pos h1]
    exact ⟨rfl, rfl⟩
  · have h2 : decide (d > 3) = true := decide_eq_true (by omega)
    rw [if_neg h1, if_neg h1, h2]
    exact ⟨rfl, rfl⟩
theorem wr_ofNat (n : Nat) (h : n < 9223372036854775808) : wrap64 (n : Int) = n := IntWalk.wrap64_in _ (by omega)
theorem and15 (m : Nat) (h : m < 256) : wrap64 (Go.bits .and .u8 (m : Int) 15) = ((m % 16 : Nat) : Int) := by
  have : ∀ m : Fin 256, wrap64 (Go.bits .and .u8 (m.val : Int) 15) = ((m.val % 16 : Nat) : Int) := by decide +kernel
  exact this ⟨m, h⟩
theorem bt_range (s : ByteArray) (i : Int) : ∃ m : Nat, m < 256 ∧ bt s i = (m : Int) := by
  unfold bt
  split
  · exact ⟨_, UInt8.toNat_lt _, rfl⟩
  · exact ⟨0, by decide, rfl⟩
theorem digits (s : ByteArray) (i : Int) (hi : i = 0 ∨ i = 1 ∨ i = 2) : ∃ v : Int, span_digit.f s i = some v ∧ hawserref06_digit.f s i = some v := by
  have key : ∀ j : Int, 0 ≤ j → wrap64 (Int.tdiv i 2) = j → ∃ v : Int, span_digit.f s i = some v ∧ hawserref06_digit.f s i = some v := by
    intro j hj e
    unfold span_digit.f hawserref06_digit.f
    rw [e]
    by_cases h1 : j ≥ (s.size : Int)
    · rw [if_pos h1, if_pos h1]
      exact ⟨0, rfl, rfl⟩
    · obtain ⟨m, hm, hb⟩ := bt_range s j
      have hj2 : j < (s.size : Int) := by omega
      have e0 : wrap64 (m : Int) = (m : Int) := wr_ofNat m (by omega)
      have e1 : wrap64 ((m : Int) / 16) = ((m / 16 : Nat) : Int) := wr_ofNat (m / 16) (by omega)
      have e2 : wrap64 (Int.tdiv (m : Int) 16) = ((m / 16 : Nat) : Int) := wr_ofNat (m / 16) (by omega)
      have e3 : Int.tmod (m : Int) 16 = ((m % 16 : Nat) : Int) := rfl
      simp only [if_neg h1, if_pos hj, if_pos hj2, hb, e0, e1, e2, e3, and15 m hm]
      by_cases h2 : Int.tmod i 2 = 0
      · simp only [if_pos h2]
        exact ⟨_, rfl, rfl⟩
      · simp only [if_neg h2]
        exact ⟨_, rfl, rfl⟩
  rcases hi with rfl | rfl | rfl
  · exact key 0 (by decide) (by decide +kernel)
  · exact key 0 (by decide) (by decide +kernel)
  · exact key 1 (by decide) (by decide +kernel)
theorem numbers (d : Int) (s : ByteArray) (hd : d = 1 ∨ d = 2 ∨ d = 3) : ∃ v : Int, span_number.f 20 d s = some v ∧ hawserref06_In.f 20 d s = some v := by
  obtain ⟨v0, p0, q0⟩ := digits s 0 (.inl rfl)
  obtain ⟨v1, p1, q1⟩ := digits s 1 (.inr (.inl rfl))
  obtain ⟨v2, p2, q2⟩ := digits s 2 (.inr (.inr rfl))
  have w1 : wrap64 (0 + 1) = 1 := by decide +kernel
  have w2 : wrap64 (1 + 1) = 2 := by decide +kernel
  have w3 : wrap64 (2 + 1) = 3 := by decide +kernel
  unfold span_number.f hawserref06_In.f
  rcases hd with rfl | rfl | rfl
  · refine ⟨wrap64 (wrap64 (0 * 16) + v0), ?_, ?_⟩
    · rw [span_number.l0, if_pos (by decide), p0, Option.bind_some, w1, span_number.l0, if_neg (by decide)]
    · rw [hawserref06_In.l0, if_pos (by decide), q0, Option.bind_some, w1, hawserref06_In.l0, if_neg (by decide)]
  · refine ⟨wrap64 (wrap64 (wrap64 (wrap64 (0 * 16) + v0) * 16) + v1), ?_, ?_⟩
    · rw [span_number.l0, if_pos (by decide), p0, Option.bind_some, w1, span_number.l0, if_pos (by decide), p1, Option.bind_some, w2, span_number.l0, if_neg (by decide)]
    · rw [hawserref06_In.l0, if_pos (by decide), q0, Option.bind_some, w1, hawserref06_In.l0, if_pos (by decide), q1, Option.bind_some, w2, hawserref06_In.l0, if_neg (by decide)]
  · refine ⟨wrap64 (wrap64 (wrap64 (wrap64 (wrap64 (wrap64 (0 * 16) + v0) * 16) + v1) * 16) + v2), ?_, ?_⟩
    · rw [span_number.l0, if_pos (by decide), p0, Option.bind_some, w1, span_number.l0, if_pos (by decide), p1, Option.bind_some, w2, span_number.l0, if_pos (by decide), p2, Option.bind_some, w3, span_number.l0, if_neg (by decide)]
    · rw [hawserref06_In.l0, if_pos (by decide), q0, Option.bind_some, w1, hawserref06_In.l0, if_pos (by decide), q1, Option.bind_some, w2, hawserref06_In.l0, if_pos (by decide), q2, Option.bind_some, w3, hawserref06_In.l0, if_neg (by decide)]
theorem buckets (d : Int) (s : ByteArray) : ∃ x e : Int, span_Bucket.f 20 d s = some (x, e) ∧ hawserref06_Bucket.f 20 d s = some (x, e) := by
  unfold span_Bucket.f hawserref06_Bucket.f
  by_cases hd : d = 1 ∨ d = 2 ∨ d = 3
  · obtain ⟨c1, c2, c3, -, -⟩ := count_in d hd
    rw [c1, c2, Option.bind_some, Option.bind_some, if_neg c3, if_neg c3]
    unfold span_Check.f hawserref06_Check.f
    by_cases h1 : (s.size : Int) < 1
    · rw [if_pos h1, Option.bind_some, Option.bind_some, if_neg (by decide), if_neg (by decide)]
      exact ⟨_, _, rfl, rfl⟩
    · rw [if_neg h1]
      by_cases h2 : (s.size : Int) > 1024
      · rw [if_pos h2, Option.bind_some, Option.bind_some, if_neg (by decide), if_neg (by decide)]
        exact ⟨_, _, rfl, rfl⟩
      · obtain ⟨v, p, q⟩ := numbers d s hd
        rw [if_neg h2, Option.bind_some, Option.bind_some, if_pos rfl, if_pos rfl, p, q]
        exact ⟨_, _, rfl, rfl⟩
  · obtain ⟨c1, c2⟩ := count_out d hd
    rw [c1, c2]
    exact ⟨_, _, rfl, rfl⟩
theorem ofs (d b : Int) (hb : (Lit.int .i64 b).wf = true) : ∃ (x y x' y' : ByteArray) (e : Int), span_Of.f 20 d b = some (x, y, e) ∧ hawserref06_Of.f 20 d b = some (x', y', e) ∧ x.toList = x'.toList ∧ y.toList = y'.toList := by
  unfold span_Of.f hawserref06_Of.f
  by_cases hd : d = 1 ∨ d = 2 ∨ d = 3
  · obtain ⟨c1, c2, c3, c4, c5⟩ := count_in d hd
    rw [c1, c2, Option.bind_some, Option.bind_some, if_neg c3, if_neg c3]
    by_cases h1 : b < 0
    · rw [if_pos h1, if_pos h1]
      exact ⟨_, _, _, _, _, rfl, rfl, rfl, rfl⟩
    · rw [if_neg h1, if_neg h1]
      by_cases h2 : b ≥ cntD d
      · rw [show decide (b ≥ cntD d) = true from decide_eq_true h2]
        exact ⟨_, _, _, _, _, rfl, rfl, rfl, rfl⟩
      · rw [show decide (b ≥ cntD d) = false from decide_eq_false h2]
        obtain ⟨x, x', p, p', ex⟩ := leasts d b hd (by omega) (by omega)
        have w1 : wrap64 (b + 1) = b + 1 := IntWalk.wrap64_in _ (by omega)
        simp only [span_Of.j0, hawserref06_Of.j0, Bool.false_eq_true, if_false]
        rw [w1, p, p', Option.bind_some]
        by_cases h3 : b + 1 < cntD d
        · obtain ⟨y, y', q, q', ey⟩ := leasts d (b + 1) hd (by omega) h3
          rw [if_pos h3, q, q']
          exact ⟨x, y, x', y', 0, rfl, rfl, ex, ey⟩
        · have q : span_least.f d (b + 1) = some ⟨#[]⟩ := by
            unfold span_least.f
            rw [if_pos ⟨hd, by omega⟩, if_pos (by omega)]
          rw [if_neg h3, q]
          exact ⟨x, ⟨#[]⟩, x', ⟨#[]⟩, 0, rfl, rfl, ex, rfl⟩
  · obtain ⟨c1, c2⟩ := count_out d hd
    rw [c1, c2]
    exact ⟨_, _, _, _, _, rfl, rfl, rfl, rfl⟩
theorem SpanBuckets : hawserlaw06_SpanBuckets.Pure := by
  intro d s b _ _ hb
  obtain ⟨v, e, p, q⟩ := buckets d s
  obtain ⟨x, y, x', y', f, p2, q2, ex, ey⟩ := ofs d b hb
  refine ⟨20, ?_⟩
  unfold hawserlaw06_SpanBuckets.f hawserlaw06_num.f
  rw [p, q, p2, q2]
  simp only [Option.bind_some]
  simp [ex, ey]
end Go.Proofs.YtijlanhhelichaaDoor.Pure

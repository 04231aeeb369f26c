/- What is proved: contracts of the functions that the law uses, each under the conditions that its theorem states. Written by a program of this session: texts of the kit's print, and texts by hand for the functions that the print does not take. -/
import Derived.Test.YtbakmkoppieelaaPLinearChecksx0
import Derived.Test.YtbakmkoppieelaaPLinearChecksx2
import Derived.Test.YtbakmkoppieelaaPLinearChecksx3
import Derived.Test.YtbakmkoppieelaaPLinearChecksx4
import Derived.Test.YtbakmkoppieelaaPLinearChecksx5
namespace Go.Proofs.Ytbakmkoppieelaa.PLinearChecks
open Go.RowKit Go.Proofs.YtbakmkoppieelaaW.PrintWords Go.Proofs.YtbakmkoppieelaaW.PrintLast Go.Proofs.YtbakmkoppieelaaW.PrintMore
attribute [local go_sem] max2_int min2_int max_two min_two max_three min_three max_four min_four   -- for this text's walks alone
set_option linter.unusedVariables false
set_option linter.unusedSimpArgs false

/-! ### hawserref26_may: function 43 -/
theorem res2 (kd : Int) (key value : ByteArray) (ver code rv : Int) : hawserref26_rightResult.f kd key value ver code rv = some (resB kd ver code rv) := by
  rw [← res1 kd key value ver code rv]
  unfold linear_resultMay.f hawserref26_rightResult.f
  simp only [wi1, Option.bind_some]
  unfold wiB
  by_cases c1 : code = 1
  · by_cases h : rv ≥ 1 <;> simp [c1, h]
  by_cases c2 : code = 2
  · simp [c2]
  by_cases c3 : code = 3
  · by_cases k3 : kd = 3
    · by_cases h : rv ≥ 0
      · by_cases h' : rv ≤ 1152921504606846976 <;> simp [c3, k3, h, h']
      · simp [c3, k3, h]
    · simp [c3, k3]
  · simp [c1, c2, c3]
def rowB (k w0 w1 : ByteArray) (w2 : Int) : Bool := w0.toList == k.toList && (decide ((w1.size : Int) ≤ 65536) && wiB w2 1 1152921504606846976)
theorem row2 (k w0 w1 : ByteArray) (w2 : Int) : hawserref26_rightRow.f w0 w1 w2 k = some (rowB k w0 w1 w2) := by
  unfold hawserref26_rightRow.f rowB wiB
  by_cases h7 : w0.toList = k.toList
  · by_cases h8 : (w1.size : Int) ≤ 65536
    · by_cases h9 : w2 ≥ 1 <;> simp [h7, h8, h9]
    · simp [h7, h8]
  · simp [h7]
theorem plainOp_ax (a : Int) (b c : ByteArray) (d : Int) (w : World) : Calls Try.prog 81 #[.agg #[.int .i64 a, .string b, .string c, .int .i64 d]] w fun e w' => e = .returned (.agg #[.int .i64 a, .string b, .string c, .int .i64 d]) ∧ Below w.heap.size w w' := hawserref26_plainOp.calls a b c d a b c d w rfl
theorem user_ax (s : ByteArray) (b : Bool) (hb : usrB s = b) (w : World) : Calls Try.prog 83 #[.string s] w fun e w' => e = .returned (.bool b) ∧ Drawn0 w w' := ruser_ax s b hb w
set_option maxRecDepth 100000 in
theorem ranswered_any (a0_0 : Int) (a0_1 : Int) (a0_2 : Bool) (a0_3 : ByteArray) (a0_4 : Int) (a0_5 : ByteArray) (a0_6 : ByteArray) (a0_7 : Int) (a0_8 : Int) (a0_9 : Int) (a0_10 : Int) (a0_11 : Int) (a0_12 : ByteArray) (a0_13 : ByteArray) (a0_14 : Int) (a0_15 : Bool) (b : Bool) (hb : (a0_9 != -1) = b) (w : World) : Calls Try.prog 44 #[.agg #[.int .i64 a0_0, .int .i64 a0_1, .bool a0_2, .string a0_3, .int .i64 a0_4, .string a0_5, .string a0_6, .int .i64 a0_7, .int .i64 a0_8, .int .i64 a0_9, .int .i64 a0_10, .int .i64 a0_11, .string a0_12, .string a0_13, .int .i64 a0_14, .bool a0_15]] w fun e w' => e = .returned (.bool b) ∧ Below w.heap.size w w' := by
  subst hb
  go_enter Try.func44, Try.ntmps44
  go_wp2
  go_ret
  exact ⟨rfl, by first | exact Below.refl _ _ | exact (Below.refl _ _).alloc (Nat.le_refl _) _⟩
set_option maxRecDepth 100000 in
theorem may_p0 (a0_0 : Int) (a0_1 : Int) (a0_2 : Bool) (a0_3 : ByteArray) (a0_4 : Int) (a0_5 : ByteArray) (a0_6 : ByteArray) (a0_7 : Int) (a0_8 : Int) (a0_9 : Int) (a0_10 : Int) (a0_11 : Int) (a0_12 : ByteArray) (a0_13 : ByteArray) (a0_14 : Int) (a0_15 : Bool) (w : World) (p0 : decide (a0_0 < 1) = true) :
    Calls Try.prog 43 #[.agg #[.int .i64 a0_0, .int .i64 a0_1, .bool a0_2, .string a0_3, .int .i64 a0_4, .string a0_5, .string a0_6, .int .i64 a0_7, .int .i64 a0_8, .int .i64 a0_9, .int .i64 a0_10, .int .i64 a0_11, .string a0_12, .string a0_13, .int .i64 a0_14, .bool a0_15]] w fun e w' => e = .returned (.bool false) ∧ Below w.heap.size w w' := by
  have hu39 := Try.underlying39
  have hu32 := Try.underlying32
  have hu35 := Try.underlying35
  have hu37 := Try.underlying37
  go_enter Try.func43, Try.ntmps43
  go_upto_region 1 with (fail)
  obtain ⟨B, hB⟩ : ∃ B, RowKit.Hid (B = w.heap.size) := ⟨_, Lib.hid rfl⟩
  obtain ⟨W1, hW1⟩ : ∃ W1, w.alloc (.cells #[.int .i64 a0_0, .int .i64 a0_1, .bool a0_2, .string a0_3, .int .i64 a0_4, .string a0_5, .string a0_6, .int .i64 a0_7, .int .i64 a0_8, .int .i64 a0_9, .int .i64 a0_10, .int .i64 a0_11, .string a0_12, .string a0_13, .int .i64 a0_14, .bool a0_15] 39) = W1 := ⟨_, rfl⟩
  have g1 : W1.heap[B]? = some (.cells #[.int .i64 a0_0, .int .i64 a0_1, .bool a0_2, .string a0_3, .int .i64 a0_4, .string a0_5, .string a0_6, .int .i64 a0_7, .int .i64 a0_8, .int .i64 a0_9, .int .i64 a0_10, .int .i64 a0_11, .string a0_12, .string a0_13, .int .i64 a0_14, .bool a0_15] 39 (0, 0)) := by rw [← hW1, hB.out]; exact heap_alloc_new w _
  have b1 : Below w.heap.size w W1 := by rw [← hW1]; exact (Below.refl _ _).alloc (Nat.le_refl _) _
  rw [hW1, ← hB.out]
  clear hW1
  obtain ⟨z0, z1, z2, z3, z4, z5, z6, z7, z8, z9, z10, z11, z12, z13, z14, z15⟩ := cells16 g1
  have G1 := Lib.hid (And.intro g1 b1)
  clear g1 b1
  go_wp2_with (first
    | (fail))
  go_ret
  exact ⟨by first | rfl | simp, by with_reducible first | exact G1.out.2 | exact pw_below_drewN G1.out.2 _ | exact pw_below_drewN (pw_below_drewN G1.out.2 _) _ | exact G1.out.2.alloc G1.out.2.size _ | exact pw_below_drewN (G1.out.2.alloc G1.out.2.size _) _⟩
set_option maxRecDepth 100000 in
theorem may_p1 (a0_0 : Int) (a0_1 : Int) (a0_2 : Bool) (a0_3 : ByteArray) (a0_4 : Int) (a0_5 : ByteArray) (a0_6 : ByteArray) (a0_7 : Int) (a0_8 : Int) (a0_9 : Int) (a0_10 : Int) (a0_11 : Int) (a0_12 : ByteArray) (a0_13 : ByteArray) (a0_14 : Int) (a0_15 : Bool) (w : World) (p0 : decide (a0_0 < 1) = false) (p1 : decide (a0_0 > 16) = true) :
    Calls Try.prog 43 #[.agg #[.int .i64 a0_0, .int .i64 a0_1, .bool a0_2, .string a0_3, .int .i64 a0_4, .string a0_5, .string a0_6, .int .i64 a0_7, .int .i64 a0_8, .int .i64 a0_9, .int .i64 a0_10, .int .i64 a0_11, .string a0_12, .string a0_13, .int .i64 a0_14, .bool a0_15]] w fun e w' => e = .returned (.bool false) ∧ Below w.heap.size w w' := by
  have hu39 := Try.underlying39
  have hu32 := Try.underlying32
  have hu35 := Try.underlying35
  have hu37 := Try.underlying37
  go_enter Try.func43, Try.ntmps43
  go_upto_region 1 with (fail)
  obtain ⟨B, hB⟩ : ∃ B, RowKit.Hid (B = w.heap.size) := ⟨_, Lib.hid rfl⟩
  obtain ⟨W1, hW1⟩ : ∃ W1, w.alloc (.cells #[.int .i64 a0_0, .int .i64 a0_1, .bool a0_2, .string a0_3, .int .i64 a0_4, .string a0_5, .string a0_6, .int .i64 a0_7, .int .i64 a0_8, .int .i64 a0_9, .int .i64 a0_10, .int .i64 a0_11, .string a0_12, .string a0_13, .int .i64 a0_14, .bool a0_15] 39) = W1 := ⟨_, rfl⟩
  have g1 : W1.heap[B]? = some (.cells #[.int .i64 a0_0, .int .i64 a0_1, .bool a0_2, .string a0_3, .int .i64 a0_4, .string a0_5, .string a0_6, .int .i64 a0_7, .int .i64 a0_8, .int .i64 a0_9, .int .i64 a0_10, .int .i64 a0_11, .string a0_12, .string a0_13, .int .i64 a0_14, .bool a0_15] 39 (0, 0)) := by rw [← hW1, hB.out]; exact heap_alloc_new w _
  have b1 : Below w.heap.size w W1 := by rw [← hW1]; exact (Below.refl _ _).alloc (Nat.le_refl _) _
  rw [hW1, ← hB.out]
  clear hW1
  obtain ⟨z0, z1, z2, z3, z4, z5, z6, z7, z8, z9, z10, z11, z12, z13, z14, z15⟩ := cells16 g1
  have G1 := Lib.hid (And.intro g1 b1)
  clear g1 b1
  go_wp2_with (first
    | (fail))
  go_ret
  exact ⟨by first | rfl | simp, by with_reducible first | exact G1.out.2 | exact pw_below_drewN G1.out.2 _ | exact pw_below_drewN (pw_below_drewN G1.out.2 _) _ | exact G1.out.2.alloc G1.out.2.size _ | exact pw_below_drewN (G1.out.2.alloc G1.out.2.size _) _⟩
set_option maxRecDepth 100000 in
theorem may_p2 (a0_0 : Int) (a0_1 : Int) (a0_2 : Bool) (a0_3 : ByteArray) (a0_4 : Int) (a0_5 : ByteArray) (a0_6 : ByteArray) (a0_7 : Int) (a0_8 : Int) (a0_9 : Int) (a0_10 : Int) (a0_11 : Int) (a0_12 : ByteArray) (a0_13 : ByteArray) (a0_14 : Int) (a0_15 : Bool) (w : World) (p0 : decide (a0_0 < 1) = false) (p1 : decide (a0_0 > 16) = false) (p2 : decide (a0_1 < 1) = true) :
    Calls Try.prog 43 #[.agg #[.int .i64 a0_0, .int .i64 a0_1, .bool a0_2, .string a0_3, .int .i64 a0_4, .string a0_5, .string a0_6, .int .i64 a0_7, .int .i64 a0_8, .int .i64 a0_9, .int .i64 a0_10, .int .i64 a0_11, .string a0_12, .string a0_13, .int .i64 a0_14, .bool a0_15]] w fun e w' => e = .returned (.bool false) ∧ Below w.heap.size w w' := by
  have hu39 := Try.underlying39
  have hu32 := Try.underlying32
  have hu35 := Try.underlying35
  have hu37 := Try.underlying37
  go_enter Try.func43, Try.ntmps43
  go_upto_region 1 with (fail)
  obtain ⟨B, hB⟩ : ∃ B, RowKit.Hid (B = w.heap.size) := ⟨_, Lib.hid rfl⟩
  obtain ⟨W1, hW1⟩ : ∃ W1, w.alloc (.cells #[.int .i64 a0_0, .int .i64 a0_1, .bool a0_2, .string a0_3, .int .i64 a0_4, .string a0_5, .string a0_6, .int .i64 a0_7, .int .i64 a0_8, .int .i64 a0_9, .int .i64 a0_10, .int .i64 a0_11, .string a0_12, .string a0_13, .int .i64 a0_14, .bool a0_15] 39) = W1 := ⟨_, rfl⟩
  have g1 : W1.heap[B]? = some (.cells #[.int .i64 a0_0, .int .i64 a0_1, .bool a0_2, .string a0_3, .int .i64 a0_4, .string a0_5, .string a0_6, .int .i64 a0_7, .int .i64 a0_8, .int .i64 a0_9, .int .i64 a0_10, .int .i64 a0_11, .string a0_12, .string a0_13, .int .i64 a0_14, .bool a0_15] 39 (0, 0)) := by rw [← hW1, hB.out]; exact heap_alloc_new w _
  have b1 : Below w.heap.size w W1 := by rw [← hW1]; exact (Below.refl _ _).alloc (Nat.le_refl _) _
  rw [hW1, ← hB.out]
  clear hW1
  obtain ⟨z0, z1, z2, z3, z4, z5, z6, z7, z8, z9, z10, z11, z12, z13, z14, z15⟩ := cells16 g1
  have G1 := Lib.hid (And.intro g1 b1)
  clear g1 b1
  go_wp2_with (first
    | (fail))
  go_ret
  exact ⟨by first | rfl | simp, by with_reducible first | exact G1.out.2 | exact pw_below_drewN G1.out.2 _ | exact pw_below_drewN (pw_below_drewN G1.out.2 _) _ | exact G1.out.2.alloc G1.out.2.size _ | exact pw_below_drewN (G1.out.2.alloc G1.out.2.size _) _⟩
set_option maxRecDepth 100000 in
theorem may_p3 (a0_0 : Int) (a0_1 : Int) (a0_2 : Bool) (a0_3 : ByteArray) (a0_4 : Int) (a0_5 : ByteArray) (a0_6 : ByteArray) (a0_7 : Int) (a0_8 : Int) (a0_9 : Int) (a0_10 : Int) (a0_11 : Int) (a0_12 : ByteArray) (a0_13 : ByteArray) (a0_14 : Int) (a0_15 : Bool) (w : World) (p0 : decide (a0_0 < 1) = false) (p1 : decide (a0_0 > 16) = false) (p2 : decide (a0_1 < 1) = false) (p3 : decide (a0_1 > 1152921504606846976) = true) :
    Calls Try.prog 43 #[.agg #[.int .i64 a0_0, .int .i64 a0_1, .bool a0_2, .string a0_3, .int .i64 a0_4, .string a0_5, .string a0_6, .int .i64 a0_7, .int .i64 a0_8, .int .i64 a0_9, .int .i64 a0_10, .int .i64 a0_11, .string a0_12, .string a0_13, .int .i64 a0_14, .bool a0_15]] w fun e w' => e = .returned (.bool false) ∧ Below w.heap.size w w' := by
  have hu39 := Try.underlying39
  have hu32 := Try.underlying32
  have hu35 := Try.underlying35
  have hu37 := Try.underlying37
  go_enter Try.func43, Try.ntmps43
  go_upto_region 1 with (fail)
  obtain ⟨B, hB⟩ : ∃ B, RowKit.Hid (B = w.heap.size) := ⟨_, Lib.hid rfl⟩
  obtain ⟨W1, hW1⟩ : ∃ W1, w.alloc (.cells #[.int .i64 a0_0, .int .i64 a0_1, .bool a0_2, .string a0_3, .int .i64 a0_4, .string a0_5, .string a0_6, .int .i64 a0_7, .int .i64 a0_8, .int .i64 a0_9, .int .i64 a0_10, .int .i64 a0_11, .string a0_12, .string a0_13, .int .i64 a0_14, .bool a0_15] 39) = W1 := ⟨_, rfl⟩
  have g1 : W1.heap[B]? = some (.cells #[.int .i64 a0_0, .int .i64 a0_1, .bool a0_2, .string a0_3, .int .i64 a0_4, .string a0_5, .string a0_6, .int .i64 a0_7, .int .i64 a0_8, .int .i64 a0_9, .int .i64 a0_10, .int .i64 a0_11, .string a0_12, .string a0_13, .int .i64 a0_14, .bool a0_15] 39 (0, 0)) := by rw [← hW1, hB.out]; exact heap_alloc_new w _
  have b1 : Below w.heap.size w W1 := by rw [← hW1]; exact (Below.refl _ _).alloc (Nat.le_refl _) _
  rw [hW1, ← hB.out]
  clear hW1
  obtain ⟨z0, z1, z2, z3, z4, z5, z6, z7, z8, z9, z10, z11, z12, z13, z14, z15⟩ := cells16 g1
  have G1 := Lib.hid (And.intro g1 b1)
  clear g1 b1
  go_wp2_with (first
    | (fail))
  go_ret
  exact ⟨by first | rfl | simp, by with_reducible first | exact G1.out.2 | exact pw_below_drewN G1.out.2 _ | exact pw_below_drewN (pw_below_drewN G1.out.2 _) _ | exact G1.out.2.alloc G1.out.2.size _ | exact pw_below_drewN (G1.out.2.alloc G1.out.2.size _) _⟩
set_option maxRecDepth 100000 in
theorem may_p8 (a0_0 : Int) (a0_1 : Int) (a0_2 : Bool) (a0_3 : ByteArray) (a0_4 : Int) (a0_5 : ByteArray) (a0_6 : ByteArray) (a0_7 : Int) (a0_8 : Int) (a0_9 : Int) (a0_10 : Int) (a0_11 : Int) (a0_12 : ByteArray) (a0_13 : ByteArray) (a0_14 : Int) (a0_15 : Bool) (w : World) (p0 : decide (a0_0 < 1) = false) (p1 : decide (a0_0 > 16) = false) (p2 : decide (a0_1 < 1) = false) (p3 : decide (a0_1 > 1152921504606846976) = false) (p8 : decide (a0_8 < 0) = true) :
    Calls Try.prog 43 #[.agg #[.int .i64 a0_0, .int .i64 a0_1, .bool a0_2, .string a0_3, .int .i64 a0_4, .string a0_5, .string a0_6, .int .i64 a0_7, .int .i64 a0_8, .int .i64 a0_9, .int .i64 a0_10, .int .i64 a0_11, .string a0_12, .string a0_13, .int .i64 a0_14, .bool a0_15]] w fun e w' => e = .returned (.bool false) ∧ Below w.heap.size w w' := by
  have hu39 := Try.underlying39
  have hu32 := Try.underlying32
  have hu35 := Try.underlying35
  have hu37 := Try.underlying37
  go_enter Try.func43, Try.ntmps43
  go_upto_region 1 with (fail)
  obtain ⟨B, hB⟩ : ∃ B, RowKit.Hid (B = w.heap.size) := ⟨_, Lib.hid rfl⟩
  obtain ⟨W1, hW1⟩ : ∃ W1, w.alloc (.cells #[.int .i64 a0_0, .int .i64 a0_1, .bool a0_2, .string a0_3, .int .i64 a0_4, .string a0_5, .string a0_6, .int .i64 a0_7, .int .i64 a0_8, .int .i64 a0_9, .int .i64 a0_10, .int .i64 a0_11, .string a0_12, .string a0_13, .int .i64 a0_14, .bool a0_15] 39) = W1 := ⟨_, rfl⟩
  have g1 : W1.heap[B]? = some (.cells #[.int .i64 a0_0, .int .i64 a0_1, .bool a0_2, .string a0_3, .int .i64 a0_4, .string a0_5, .string a0_6, .int .i64 a0_7, .int .i64 a0_8, .int .i64 a0_9, .int .i64 a0_10, .int .i64 a0_11, .string a0_12, .string a0_13, .int .i64 a0_14, .bool a0_15] 39 (0, 0)) := by rw [← hW1, hB.out]; exact heap_alloc_new w _
  have b1 : Below w.heap.size w W1 := by rw [← hW1]; exact (Below.refl _ _).alloc (Nat.le_refl _) _
  rw [hW1, ← hB.out]
  clear hW1
  obtain ⟨z0, z1, z2, z3, z4, z5, z6, z7, z8, z9, z10, z11, z12, z13, z14, z15⟩ := cells16 g1
  have G1 := Lib.hid (And.intro g1 b1)
  clear g1 b1
  go_wp2_with (first
    | (fail))
  go_ret
  exact ⟨by first | rfl | simp, by with_reducible first | exact G1.out.2 | exact pw_below_drewN G1.out.2 _ | exact pw_below_drewN (pw_below_drewN G1.out.2 _) _ | exact G1.out.2.alloc G1.out.2.size _ | exact pw_below_drewN (G1.out.2.alloc G1.out.2.size _) _⟩
set_option maxRecDepth 100000 in
theorem may_l (a0_0 : Int) (a0_1 : Int) (a0_2 : Bool) (a0_3 : ByteArray) (a0_4 : Int) (a0_5 : ByteArray) (a0_6 : ByteArray) (a0_7 : Int) (a0_8 : Int) (a0_9 : Int) (a0_10 : Int) (a0_11 : Int) (a0_12 : ByteArray) (a0_13 : ByteArray) (a0_14 : Int) (a0_15 : Bool) (w : World) (p0 : decide (a0_0 < 1) = false) (p1 : decide (a0_0 > 16) = false) (p2 : decide (a0_1 < 1) = false) (p3 : decide (a0_1 > 1152921504606846976) = false) (p8 : decide (a0_8 < 0) = false) (h9 : (a0_9 != -1) = true) (hl : decide (a0_9 ≤ a0_8) = true) :
    Calls Try.prog 43 #[.agg #[.int .i64 a0_0, .int .i64 a0_1, .bool a0_2, .string a0_3, .int .i64 a0_4, .string a0_5, .string a0_6, .int .i64 a0_7, .int .i64 a0_8, .int .i64 a0_9, .int .i64 a0_10, .int .i64 a0_11, .string a0_12, .string a0_13, .int .i64 a0_14, .bool a0_15]] w fun e w' => e = .returned (.bool false) ∧ Below w.heap.size w w' := by
  have hu39 := Try.underlying39
  have hu32 := Try.underlying32
  have hu35 := Try.underlying35
  have hu37 := Try.underlying37
  go_enter Try.func43, Try.ntmps43
  go_upto_region 1 with (fail)
  obtain ⟨B, hB⟩ : ∃ B, RowKit.Hid (B = w.heap.size) := ⟨_, Lib.hid rfl⟩
  obtain ⟨W1, hW1⟩ : ∃ W1, w.alloc (.cells #[.int .i64 a0_0, .int .i64 a0_1, .bool a0_2, .string a0_3, .int .i64 a0_4, .string a0_5, .string a0_6, .int .i64 a0_7, .int .i64 a0_8, .int .i64 a0_9, .int .i64 a0_10, .int .i64 a0_11, .string a0_12, .string a0_13, .int .i64 a0_14, .bool a0_15] 39) = W1 := ⟨_, rfl⟩
  have g1 : W1.heap[B]? = some (.cells #[.int .i64 a0_0, .int .i64 a0_1, .bool a0_2, .string a0_3, .int .i64 a0_4, .string a0_5, .string a0_6, .int .i64 a0_7, .int .i64 a0_8, .int .i64 a0_9, .int .i64 a0_10, .int .i64 a0_11, .string a0_12, .string a0_13, .int .i64 a0_14, .bool a0_15] 39 (0, 0)) := by rw [← hW1, hB.out]; exact heap_alloc_new w _
  have b1 : Below w.heap.size w W1 := by rw [← hW1]; exact (Below.refl _ _).alloc (Nat.le_refl _) _
  rw [hW1, ← hB.out]
  clear hW1
  obtain ⟨z0, z1, z2, z3, z4, z5, z6, z7, z8, z9, z10, z11, z12, z13, z14, z15⟩ := cells16 g1
  have G1 := Lib.hid (And.intro g1 b1)
  clear g1 b1
  go_wp2_with (first
    | (fail))
  go_ret
  exact ⟨by first | rfl | simp, by with_reducible first | exact G1.out.2 | exact pw_below_drewN G1.out.2 _ | exact pw_below_drewN (pw_below_drewN G1.out.2 _) _ | exact G1.out.2.alloc G1.out.2.size _ | exact pw_below_drewN (G1.out.2.alloc G1.out.2.size _) _⟩
set_option maxRecDepth 100000 in
theorem may_zd (a0_0 : Int) (a0_1 : Int) (a0_3 : ByteArray) (a0_4 : Int) (a0_5 : ByteArray) (a0_6 : ByteArray) (a0_7 : Int) (a0_8 : Int) (a0_10 : Int) (a0_11 : Int) (a0_12 : ByteArray) (a0_13 : ByteArray) (a0_14 : Int) (a0_15 : Bool) (w : World) (p0 : decide (a0_0 < 1) = false) (p1 : decide (a0_0 > 16) = false) (p2 : decide (a0_1 < 1) = false) (p3 : decide (a0_1 > 1152921504606846976) = false) (p8 : decide (a0_8 < 0) = false) (r : Int) (hd : ∀ W, Calls Try.prog 80 #[.agg #[.int .i64 a0_4, .string a0_5, .string a0_6, .int .i64 a0_7]] W fun e w' => e = .returned (.int .i64 r) ∧ Below W.heap.size W w') (hr : (r != 0) = true) :
    Calls Try.prog 43 #[.agg #[.int .i64 a0_0, .int .i64 a0_1, .bool false, .string a0_3, .int .i64 a0_4, .string a0_5, .string a0_6, .int .i64 a0_7, .int .i64 a0_8, .int .i64 (-1), .int .i64 a0_10, .int .i64 a0_11, .string a0_12, .string a0_13, .int .i64 a0_14, .bool a0_15]] w fun e w' => e = .returned (.bool false) ∧ Below w.heap.size w w' := by
  have hu39 := Try.underlying39
  have hu32 := Try.underlying32
  have hu35 := Try.underlying35
  have hu37 := Try.underlying37
  have HP := Lib.hid (fun W => plainOp_ax a0_4 a0_5 a0_6 a0_7 W)
  have HD := Lib.hid hd
  clear hd
  go_enter Try.func43, Try.ntmps43
  go_upto_region 1 with (fail)
  obtain ⟨B, hB⟩ : ∃ B, RowKit.Hid (B = w.heap.size) := ⟨_, Lib.hid rfl⟩
  obtain ⟨W1, hW1⟩ : ∃ W1, w.alloc (.cells #[.int .i64 a0_0, .int .i64 a0_1, .bool false, .string a0_3, .int .i64 a0_4, .string a0_5, .string a0_6, .int .i64 a0_7, .int .i64 a0_8, .int .i64 (-1), .int .i64 a0_10, .int .i64 a0_11, .string a0_12, .string a0_13, .int .i64 a0_14, .bool a0_15] 39) = W1 := ⟨_, rfl⟩
  have g1 : W1.heap[B]? = some (.cells #[.int .i64 a0_0, .int .i64 a0_1, .bool false, .string a0_3, .int .i64 a0_4, .string a0_5, .string a0_6, .int .i64 a0_7, .int .i64 a0_8, .int .i64 (-1), .int .i64 a0_10, .int .i64 a0_11, .string a0_12, .string a0_13, .int .i64 a0_14, .bool a0_15] 39 (0, 0)) := by rw [← hW1, hB.out]; exact heap_alloc_new w _
  have b1 : Below w.heap.size w W1 := by rw [← hW1]; exact (Below.refl _ _).alloc (Nat.le_refl _) _
  rw [hW1, ← hB.out]
  clear hW1
  obtain ⟨z0, z1, z2, z3, z4, z5, z6, z7, z8, z9, z10, z11, z12, z13, z14, z15⟩ := cells16 g1
  have G1 := Lib.hid (And.intro g1 b1)
  clear g1 b1
  go_wp2_with (first
    | (go_at_call 81; refine (HP.out _).mono ?_; rintro e w2 ⟨rfl, hb1⟩; have g2 := blk_below (by first | exact G1.out.1 | exact blk_drewN G1.out.1 _) hb1; have b2 : Below w.heap.size w w2 := (by first | exact G1.out.2 | exact pw_below_drewN G1.out.2 _ : Below w.heap.size w _).trans (hb1.mono (by first | exact G1.out.2.size | exact (pw_below_drewN G1.out.2 _).size)); have hz2 : B < w2.heap.size := blk_lt g2; obtain ⟨y0, y1, y2, y3, y4, y5, y6, y7, y8, y9, y10, y11, y12, y13, y14, y15⟩ := cells16 g2; clear z0 z1 z2 z3 z4 z5 z6 z7 z8 z9 z10 z11 z12 z13 z14 z15; have G2 := Lib.hid (And.intro g2 b2); clear g2 b2 hb1)
    | (go_at_call 80; refine (HD.out _).mono ?_; rintro e w3 ⟨rfl, hb2⟩; have g3 := blk_below (by first | exact G2.out.1 | exact blk_drewN G2.out.1 _) hb2; have b3 : Below w.heap.size w w3 := (by first | exact G2.out.2 | exact pw_below_drewN G2.out.2 _ : Below w.heap.size w _).trans (hb2.mono (by first | exact G2.out.2.size | exact (pw_below_drewN G2.out.2 _).size)); have hz3 : B < w3.heap.size := blk_lt g3; obtain ⟨v0, v1, v2, v3, v4, v5, v6, v7, v8, v9, v10, v11, v12, v13, v14, v15⟩ := cells16 g3; clear y0 y1 y2 y3 y4 y5 y6 y7 y8 y9 y10 y11 y12 y13 y14 y15 hz2; have G3 := Lib.hid (And.intro g3 b3); clear g3 b3 hb2)
    | ((with_reducible refine gate_dst (N := 64) rfl ?_); (try (refine gate_guard (by rfl) ?_; dsimp only)); refine wpList_load_row rfl 39 (.tmp 1) rfl B rfl 39 #[.int .i64 a0_0, .int .i64 a0_1, .bool false, .string a0_3, .int .i64 a0_4, .string a0_5, .string a0_6, .int .i64 a0_7, .int .i64 a0_8, .int .i64 (-1), .int .i64 a0_10, .int .i64 a0_11, .string a0_12, .string a0_13, .int .i64 a0_14, .bool a0_15] (0, 0) _ (by first | exact G5.out.1 | exact blk_drewN G5.out.1 _ | exact G4.out.1 | exact blk_drewN G4.out.1 _ | exact G3.out.1 | exact blk_drewN G3.out.1 _ | exact G2.out.1 | exact blk_drewN G2.out.1 _ | exact G1.out.1 | exact blk_drewN G1.out.1 _) Try.underlying39 rfl (by kernel_rfl) ?_)
    | ((with_reducible refine gate_dst (N := 96) rfl ?_); (try (refine gate_guard (by rfl) ?_; dsimp only)); refine wpList_load_row rfl 39 (.tmp 1) rfl B rfl 39 #[.int .i64 a0_0, .int .i64 a0_1, .bool false, .string a0_3, .int .i64 a0_4, .string a0_5, .string a0_6, .int .i64 a0_7, .int .i64 a0_8, .int .i64 (-1), .int .i64 a0_10, .int .i64 a0_11, .string a0_12, .string a0_13, .int .i64 a0_14, .bool a0_15] (0, 0) _ (by first | exact G5.out.1 | exact blk_drewN G5.out.1 _ | exact G4.out.1 | exact blk_drewN G4.out.1 _ | exact G3.out.1 | exact blk_drewN G3.out.1 _ | exact G2.out.1 | exact blk_drewN G2.out.1 _ | exact G1.out.1 | exact blk_drewN G1.out.1 _) Try.underlying39 rfl (by kernel_rfl) ?_)
    | (fail))
  go_ret
  exact ⟨by first | rfl | simp, by with_reducible first | exact G3.out.2 | exact pw_below_drewN G3.out.2 _ | exact pw_below_drewN (pw_below_drewN G3.out.2 _) _ | exact G3.out.2.alloc G3.out.2.size _ | exact pw_below_drewN (G3.out.2.alloc G3.out.2.size _) _⟩
set_option maxRecDepth 100000 in
theorem may_zk (a0_0 : Int) (a0_1 : Int) (a0_3 : ByteArray) (a0_4 : Int) (a0_5 : ByteArray) (a0_6 : ByteArray) (a0_7 : Int) (a0_8 : Int) (a0_10 : Int) (a0_11 : Int) (a0_12 : ByteArray) (a0_13 : ByteArray) (a0_14 : Int) (a0_15 : Bool) (w : World) (p0 : decide (a0_0 < 1) = false) (p1 : decide (a0_0 > 16) = false) (p2 : decide (a0_1 < 1) = false) (p3 : decide (a0_1 > 1152921504606846976) = false) (p8 : decide (a0_8 < 0) = false) (hd : ∀ W, Calls Try.prog 80 #[.agg #[.int .i64 a0_4, .string a0_5, .string a0_6, .int .i64 a0_7]] W fun e w' => e = .returned (.int .i64 0) ∧ Below W.heap.size W w') (hk : (a0_3.toList == a0_5.toList) = false) :
    Calls Try.prog 43 #[.agg #[.int .i64 a0_0, .int .i64 a0_1, .bool false, .string a0_3, .int .i64 a0_4, .string a0_5, .string a0_6, .int .i64 a0_7, .int .i64 a0_8, .int .i64 (-1), .int .i64 a0_10, .int .i64 a0_11, .string a0_12, .string a0_13, .int .i64 a0_14, .bool a0_15]] w fun e w' => e = .returned (.bool false) ∧ Below w.heap.size w w' := by
  have hu39 := Try.underlying39
  have hu32 := Try.underlying32
  have hu35 := Try.underlying35
  have hu37 := Try.underlying37
  have HP := Lib.hid (fun W => plainOp_ax a0_4 a0_5 a0_6 a0_7 W)
  have HD := Lib.hid hd
  clear hd
  go_enter Try.func43, Try.ntmps43
  go_upto_region 1 with (fail)
  obtain ⟨B, hB⟩ : ∃ B, RowKit.Hid (B = w.heap.size) := ⟨_, Lib.hid rfl⟩
  obtain ⟨W1, hW1⟩ : ∃ W1, w.alloc (.cells #[.int .i64 a0_0, .int .i64 a0_1, .bool false, .string a0_3, .int .i64 a0_4, .string a0_5, .string a0_6, .int .i64 a0_7, .int .i64 a0_8, .int .i64 (-1), .int .i64 a0_10, .int .i64 a0_11, .string a0_12, .string a0_13, .int .i64 a0_14, .bool a0_15] 39) = W1 := ⟨_, rfl⟩
  have g1 : W1.heap[B]? = some (.cells #[.int .i64 a0_0, .int .i64 a0_1, .bool false, .string a0_3, .int .i64 a0_4, .string a0_5, .string a0_6, .int .i64 a0_7, .int .i64 a0_8, .int .i64 (-1), .int .i64 a0_10, .int .i64 a0_11, .string a0_12, .string a0_13, .int .i64 a0_14, .bool a0_15] 39 (0, 0)) := by rw [← hW1, hB.out]; exact heap_alloc_new w _
  have b1 : Below w.heap.size w W1 := by rw [← hW1]; exact (Below.refl _ _).alloc (Nat.le_refl _) _
  rw [hW1, ← hB.out]
  clear hW1
  obtain ⟨z0, z1, z2, z3, z4, z5, z6, z7, z8, z9, z10, z11, z12, z13, z14, z15⟩ := cells16 g1
  have G1 := Lib.hid (And.intro g1 b1)
  clear g1 b1
  go_wp2_with (first
    | (go_at_call 81; refine (HP.out _).mono ?_; rintro e w2 ⟨rfl, hb1⟩; have g2 := blk_below (by first | exact G1.out.1 | exact blk_drewN G1.out.1 _) hb1; have b2 : Below w.heap.size w w2 := (by first | exact G1.out.2 | exact pw_below_drewN G1.out.2 _ : Below w.heap.size w _).trans (hb1.mono (by first | exact G1.out.2.size | exact (pw_below_drewN G1.out.2 _).size)); have hz2 : B < w2.heap.size := blk_lt g2; obtain ⟨y0, y1, y2, y3, y4, y5, y6, y7, y8, y9, y10, y11, y12, y13, y14, y15⟩ := cells16 g2; clear z0 z1 z2 z3 z4 z5 z6 z7 z8 z9 z10 z11 z12 z13 z14 z15; have G2 := Lib.hid (And.intro g2 b2); clear g2 b2 hb1)
    | (go_at_call 80; refine (HD.out _).mono ?_; rintro e w3 ⟨rfl, hb2⟩; have g3 := blk_below (by first | exact G2.out.1 | exact blk_drewN G2.out.1 _) hb2; have b3 : Below w.heap.size w w3 := (by first | exact G2.out.2 | exact pw_below_drewN G2.out.2 _ : Below w.heap.size w _).trans (hb2.mono (by first | exact G2.out.2.size | exact (pw_below_drewN G2.out.2 _).size)); have hz3 : B < w3.heap.size := blk_lt g3; obtain ⟨v0, v1, v2, v3, v4, v5, v6, v7, v8, v9, v10, v11, v12, v13, v14, v15⟩ := cells16 g3; clear y0 y1 y2 y3 y4 y5 y6 y7 y8 y9 y10 y11 y12 y13 y14 y15 hz2; have G3 := Lib.hid (And.intro g3 b3); clear g3 b3 hb2)
    | ((with_reducible refine gate_dst (N := 64) rfl ?_); (try (refine gate_guard (by rfl) ?_; dsimp only)); refine wpList_load_row rfl 39 (.tmp 1) rfl B rfl 39 #[.int .i64 a0_0, .int .i64 a0_1, .bool false, .string a0_3, .int .i64 a0_4, .string a0_5, .string a0_6, .int .i64 a0_7, .int .i64 a0_8, .int .i64 (-1), .int .i64 a0_10, .int .i64 a0_11, .string a0_12, .string a0_13, .int .i64 a0_14, .bool a0_15] (0, 0) _ (by first | exact G5.out.1 | exact blk_drewN G5.out.1 _ | exact G4.out.1 | exact blk_drewN G4.out.1 _ | exact G3.out.1 | exact blk_drewN G3.out.1 _ | exact G2.out.1 | exact blk_drewN G2.out.1 _ | exact G1.out.1 | exact blk_drewN G1.out.1 _) Try.underlying39 rfl (by kernel_rfl) ?_)
    | ((with_reducible refine gate_dst (N := 96) rfl ?_); (try (refine gate_guard (by rfl) ?_; dsimp only)); refine wpList_load_row rfl 39 (.tmp 1) rfl B rfl 39 #[.int .i64 a0_0, .int .i64 a0_1, .bool false, .string a0_3, .int .i64 a0_4, .string a0_5, .string a0_6, .int .i64 a0_7, .int .i64 a0_8, .int .i64 (-1), .int .i64 a0_10, .int .i64 a0_11, .string a0_12, .string a0_13, .int .i64 a0_14, .bool a0_15] (0, 0) _ (by first | exact G5.out.1 | exact blk_drewN G5.out.1 _ | exact G4.out.1 | exact blk_drewN G4.out.1 _ | exact G3.out.1 | exact blk_drewN G3.out.1 _ | exact G2.out.1 | exact blk_drewN G2.out.1 _ | exact G1.out.1 | exact blk_drewN G1.out.1 _) Try.underlying39 rfl (by kernel_rfl) ?_)
    | (fail))
  go_ret
  exact ⟨by first | rfl | simp, by with_reducible first | exact G3.out.2 | exact pw_below_drewN G3.out.2 _ | exact pw_below_drewN (pw_below_drewN G3.out.2 _) _ | exact G3.out.2.alloc G3.out.2.size _ | exact pw_below_drewN (G3.out.2.alloc G3.out.2.size _) _⟩
set_option maxRecDepth 100000 in
theorem may_zf (a0_0 : Int) (a0_1 : Int) (a0_3 : ByteArray) (a0_4 : Int) (a0_5 : ByteArray) (a0_6 : ByteArray) (a0_7 : Int) (a0_8 : Int) (a0_10 : Int) (a0_11 : Int) (a0_12 : ByteArray) (a0_13 : ByteArray) (a0_14 : Int) (w : World) (p0 : decide (a0_0 < 1) = false) (p1 : decide (a0_0 > 16) = false) (p2 : decide (a0_1 < 1) = false) (p3 : decide (a0_1 > 1152921504606846976) = false) (p8 : decide (a0_8 < 0) = false) (hd : ∀ W, Calls Try.prog 80 #[.agg #[.int .i64 a0_4, .string a0_5, .string a0_6, .int .i64 a0_7]] W fun e w' => e = .returned (.int .i64 0) ∧ Below W.heap.size W w') (hk : (a0_3.toList == a0_5.toList) = true) :
    Calls Try.prog 43 #[.agg #[.int .i64 a0_0, .int .i64 a0_1, .bool false, .string a0_3, .int .i64 a0_4, .string a0_5, .string a0_6, .int .i64 a0_7, .int .i64 a0_8, .int .i64 (-1), .int .i64 a0_10, .int .i64 a0_11, .string a0_12, .string a0_13, .int .i64 a0_14, .bool true]] w fun e w' => e = .returned (.bool false) ∧ Below w.heap.size w w' := by
  have hu39 := Try.underlying39
  have hu32 := Try.underlying32
  have hu35 := Try.underlying35
  have hu37 := Try.underlying37
  have HP := Lib.hid (fun W => plainOp_ax a0_4 a0_5 a0_6 a0_7 W)
  have HD := Lib.hid hd
  clear hd
  go_enter Try.func43, Try.ntmps43
  go_upto_region 1 with (fail)
  obtain ⟨B, hB⟩ : ∃ B, RowKit.Hid (B = w.heap.size) := ⟨_, Lib.hid rfl⟩
  obtain ⟨W1, hW1⟩ : ∃ W1, w.alloc (.cells #[.int .i64 a0_0, .int .i64 a0_1, .bool false, .string a0_3, .int .i64 a0_4, .string a0_5, .string a0_6, .int .i64 a0_7, .int .i64 a0_8, .int .i64 (-1), .int .i64 a0_10, .int .i64 a0_11, .string a0_12, .string a0_13, .int .i64 a0_14, .bool true] 39) = W1 := ⟨_, rfl⟩
  have g1 : W1.heap[B]? = some (.cells #[.int .i64 a0_0, .int .i64 a0_1, .bool false, .string a0_3, .int .i64 a0_4, .string a0_5, .string a0_6, .int .i64 a0_7, .int .i64 a0_8, .int .i64 (-1), .int .i64 a0_10, .int .i64 a0_11, .string a0_12, .string a0_13, .int .i64 a0_14, .bool true] 39 (0, 0)) := by rw [← hW1, hB.out]; exact heap_alloc_new w _
  have b1 : Below w.heap.size w W1 := by rw [← hW1]; exact (Below.refl _ _).alloc (Nat.le_refl _) _
  rw [hW1, ← hB.out]
  clear hW1
  obtain ⟨z0, z1, z2, z3, z4, z5, z6, z7, z8, z9, z10, z11, z12, z13, z14, z15⟩ := cells16 g1
  have G1 := Lib.hid (And.intro g1 b1)
  clear g1 b1
  go_wp2_with (first
    | (go_at_call 81; refine (HP.out _).mono ?_; rintro e w2 ⟨rfl, hb1⟩; have g2 := blk_below (by first | exact G1.out.1 | exact blk_drewN G1.out.1 _) hb1; have b2 : Below w.heap.size w w2 := (by first | exact G1.out.2 | exact pw_below_drewN G1.out.2 _ : Below w.heap.size w _).trans (hb1.mono (by first | exact G1.out.2.size | exact (pw_below_drewN G1.out.2 _).size)); have hz2 : B < w2.heap.size := blk_lt g2; obtain ⟨y0, y1, y2, y3, y4, y5, y6, y7, y8, y9, y10, y11, y12, y13, y14, y15⟩ := cells16 g2; clear z0 z1 z2 z3 z4 z5 z6 z7 z8 z9 z10 z11 z12 z13 z14 z15; have G2 := Lib.hid (And.intro g2 b2); clear g2 b2 hb1)
    | (go_at_call 80; refine (HD.out _).mono ?_; rintro e w3 ⟨rfl, hb2⟩; have g3 := blk_below (by first | exact G2.out.1 | exact blk_drewN G2.out.1 _) hb2; have b3 : Below w.heap.size w w3 := (by first | exact G2.out.2 | exact pw_below_drewN G2.out.2 _ : Below w.heap.size w _).trans (hb2.mono (by first | exact G2.out.2.size | exact (pw_below_drewN G2.out.2 _).size)); have hz3 : B < w3.heap.size := blk_lt g3; obtain ⟨v0, v1, v2, v3, v4, v5, v6, v7, v8, v9, v10, v11, v12, v13, v14, v15⟩ := cells16 g3; clear y0 y1 y2 y3 y4 y5 y6 y7 y8 y9 y10 y11 y12 y13 y14 y15 hz2; have G3 := Lib.hid (And.intro g3 b3); clear g3 b3 hb2)
    | ((with_reducible refine gate_dst (N := 64) rfl ?_); (try (refine gate_guard (by rfl) ?_; dsimp only)); refine wpList_load_row rfl 39 (.tmp 1) rfl B rfl 39 #[.int .i64 a0_0, .int .i64 a0_1, .bool false, .string a0_3, .int .i64 a0_4, .string a0_5, .string a0_6, .int .i64 a0_7, .int .i64 a0_8, .int .i64 (-1), .int .i64 a0_10, .int .i64 a0_11, .string a0_12, .string a0_13, .int .i64 a0_14, .bool true] (0, 0) _ (by first | exact G5.out.1 | exact blk_drewN G5.out.1 _ | exact G4.out.1 | exact blk_drewN G4.out.1 _ | exact G3.out.1 | exact blk_drewN G3.out.1 _ | exact G2.out.1 | exact blk_drewN G2.out.1 _ | exact G1.out.1 | exact blk_drewN G1.out.1 _) Try.underlying39 rfl (by kernel_rfl) ?_)
    | ((with_reducible refine gate_dst (N := 96) rfl ?_); (try (refine gate_guard (by rfl) ?_; dsimp only)); refine wpList_load_row rfl 39 (.tmp 1) rfl B rfl 39 #[.int .i64 a0_0, .int .i64 a0_1, .bool false, .string a0_3, .int .i64 a0_4, .string a0_5, .string a0_6, .int .i64 a0_7, .int .i64 a0_8, .int .i64 (-1), .int .i64 a0_10, .int .i64 a0_11, .string a0_12, .string a0_13, .int .i64 a0_14, .bool true] (0, 0) _ (by first | exact G5.out.1 | exact blk_drewN G5.out.1 _ | exact G4.out.1 | exact blk_drewN G4.out.1 _ | exact G3.out.1 | exact blk_drewN G3.out.1 _ | exact G2.out.1 | exact blk_drewN G2.out.1 _ | exact G1.out.1 | exact blk_drewN G1.out.1 _) Try.underlying39 rfl (by kernel_rfl) ?_)
    | (fail))
  go_ret
  exact ⟨by first | rfl | simp, by with_reducible first | exact G3.out.2 | exact pw_below_drewN G3.out.2 _ | exact pw_below_drewN (pw_below_drewN G3.out.2 _) _ | exact G3.out.2.alloc G3.out.2.size _ | exact pw_below_drewN (G3.out.2.alloc G3.out.2.size _) _⟩
set_option maxRecDepth 100000 in
theorem may_zw12 (a0_0 : Int) (a0_1 : Int) (a0_3 : ByteArray) (a0_4 : Int) (a0_5 : ByteArray) (a0_6 : ByteArray) (a0_7 : Int) (a0_8 : Int) (a0_10 : Int) (a0_11 : Int) (a0_12 : ByteArray) (a0_13 : ByteArray) (a0_14 : Int) (w : World) (p0 : decide (a0_0 < 1) = false) (p1 : decide (a0_0 > 16) = false) (p2 : decide (a0_1 < 1) = false) (p3 : decide (a0_1 > 1152921504606846976) = false) (p8 : decide (a0_8 < 0) = false) (hd : ∀ W, Calls Try.prog 80 #[.agg #[.int .i64 a0_4, .string a0_5, .string a0_6, .int .i64 a0_7]] W fun e w' => e = .returned (.int .i64 0) ∧ Below W.heap.size W w') (hk : (a0_3.toList == a0_5.toList) = true) (h_a0_12 : a0_12.toList.isEmpty = false) :
    Calls Try.prog 43 #[.agg #[.int .i64 a0_0, .int .i64 a0_1, .bool false, .string a0_3, .int .i64 a0_4, .string a0_5, .string a0_6, .int .i64 a0_7, .int .i64 a0_8, .int .i64 (-1), .int .i64 a0_10, .int .i64 a0_11, .string a0_12, .string a0_13, .int .i64 a0_14, .bool false]] w fun e w' => e = .returned (.bool false) ∧ Below w.heap.size w w' := by
  have hu39 := Try.underlying39
  have hu32 := Try.underlying32
  have hu35 := Try.underlying35
  have hu37 := Try.underlying37
  have HP := Lib.hid (fun W => plainOp_ax a0_4 a0_5 a0_6 a0_7 W)
  have HD := Lib.hid hd
  clear hd
  go_enter Try.func43, Try.ntmps43
  go_upto_region 1 with (fail)
  obtain ⟨B, hB⟩ : ∃ B, RowKit.Hid (B = w.heap.size) := ⟨_, Lib.hid rfl⟩
  obtain ⟨W1, hW1⟩ : ∃ W1, w.alloc (.cells #[.int .i64 a0_0, .int .i64 a0_1, .bool false, .string a0_3, .int .i64 a0_4, .string a0_5, .string a0_6, .int .i64 a0_7, .int .i64 a0_8, .int .i64 (-1), .int .i64 a0_10, .int .i64 a0_11, .string a0_12, .string a0_13, .int .i64 a0_14, .bool false] 39) = W1 := ⟨_, rfl⟩
  have g1 : W1.heap[B]? = some (.cells #[.int .i64 a0_0, .int .i64 a0_1, .bool false, .string a0_3, .int .i64 a0_4, .string a0_5, .string a0_6, .int .i64 a0_7, .int .i64 a0_8, .int .i64 (-1), .int .i64 a0_10, .int .i64 a0_11, .string a0_12, .string a0_13, .int .i64 a0_14, .bool false] 39 (0, 0)) := by rw [← hW1, hB.out]; exact heap_alloc_new w _
  have b1 : Below w.heap.size w W1 := by rw [← hW1]; exact (Below.refl _ _).alloc (Nat.le_refl _) _
  rw [hW1, ← hB.out]
  clear hW1
  obtain ⟨z0, z1, z2, z3, z4, z5, z6, z7, z8, z9, z10, z11, z12, z13, z14, z15⟩ := cells16 g1
  have G1 := Lib.hid (And.intro g1 b1)
  clear g1 b1
  go_wp2_with (first
    | (go_at_call 81; refine (HP.out _).mono ?_; rintro e w2 ⟨rfl, hb1⟩; have g2 := blk_below (by first | exact G1.out.1 | exact blk_drewN G1.out.1 _) hb1; have b2 : Below w.heap.size w w2 := (by first | exact G1.out.2 | exact pw_below_drewN G1.out.2 _ : Below w.heap.size w _).trans (hb1.mono (by first | exact G1.out.2.size | exact (pw_below_drewN G1.out.2 _).size)); have hz2 : B < w2.heap.size := blk_lt g2; obtain ⟨y0, y1, y2, y3, y4, y5, y6, y7, y8, y9, y10, y11, y12, y13, y14, y15⟩ := cells16 g2; clear z0 z1 z2 z3 z4 z5 z6 z7 z8 z9 z10 z11 z12 z13 z14 z15; have G2 := Lib.hid (And.intro g2 b2); clear g2 b2 hb1)
    | (go_at_call 80; refine (HD.out _).mono ?_; rintro e w3 ⟨rfl, hb2⟩; have g3 := blk_below (by first | exact G2.out.1 | exact blk_drewN G2.out.1 _) hb2; have b3 : Below w.heap.size w w3 := (by first | exact G2.out.2 | exact pw_below_drewN G2.out.2 _ : Below w.heap.size w _).trans (hb2.mono (by first | exact G2.out.2.size | exact (pw_below_drewN G2.out.2 _).size)); have hz3 : B < w3.heap.size := blk_lt g3; obtain ⟨v0, v1, v2, v3, v4, v5, v6, v7, v8, v9, v10, v11, v12, v13, v14, v15⟩ := cells16 g3; clear y0 y1 y2 y3 y4 y5 y6 y7 y8 y9 y10 y11 y12 y13 y14 y15 hz2; have G3 := Lib.hid (And.intro g3 b3); clear g3 b3 hb2)
    | ((with_reducible refine gate_dst (N := 64) rfl ?_); (try (refine gate_guard (by rfl) ?_; dsimp only)); refine wpList_load_row rfl 39 (.tmp 1) rfl B rfl 39 #[.int .i64 a0_0, .int .i64 a0_1, .bool false, .string a0_3, .int .i64 a0_4, .string a0_5, .string a0_6, .int .i64 a0_7, .int .i64 a0_8, .int .i64 (-1), .int .i64 a0_10, .int .i64 a0_11, .string a0_12, .string a0_13, .int .i64 a0_14, .bool false] (0, 0) _ (by first | exact G5.out.1 | exact blk_drewN G5.out.1 _ | exact G4.out.1 | exact blk_drewN G4.out.1 _ | exact G3.out.1 | exact blk_drewN G3.out.1 _ | exact G2.out.1 | exact blk_drewN G2.out.1 _ | exact G1.out.1 | exact blk_drewN G1.out.1 _) Try.underlying39 rfl (by kernel_rfl) ?_)
    | ((with_reducible refine gate_dst (N := 96) rfl ?_); (try (refine gate_guard (by rfl) ?_; dsimp only)); refine wpList_load_row rfl 39 (.tmp 1) rfl B rfl 39 #[.int .i64 a0_0, .int .i64 a0_1, .bool false, .string a0_3, .int .i64 a0_4, .string a0_5, .string a0_6, .int .i64 a0_7, .int .i64 a0_8, .int .i64 (-1), .int .i64 a0_10, .int .i64 a0_11, .string a0_12, .string a0_13, .int .i64 a0_14, .bool false] (0, 0) _ (by first | exact G5.out.1 | exact blk_drewN G5.out.1 _ | exact G4.out.1 | exact blk_drewN G4.out.1 _ | exact G3.out.1 | exact blk_drewN G3.out.1 _ | exact G2.out.1 | exact blk_drewN G2.out.1 _ | exact G1.out.1 | exact blk_drewN G1.out.1 _) Try.underlying39 rfl (by kernel_rfl) ?_)
    | (fail))
  go_ret
  exact ⟨by first | rfl | simp, by with_reducible first | exact G3.out.2 | exact pw_below_drewN G3.out.2 _ | exact pw_below_drewN (pw_below_drewN G3.out.2 _) _ | exact G3.out.2.alloc G3.out.2.size _ | exact pw_below_drewN (G3.out.2.alloc G3.out.2.size _) _⟩
set_option maxRecDepth 100000 in
theorem may_zw13 (a0_0 : Int) (a0_1 : Int) (a0_3 : ByteArray) (a0_4 : Int) (a0_5 : ByteArray) (a0_6 : ByteArray) (a0_7 : Int) (a0_8 : Int) (a0_10 : Int) (a0_11 : Int) (a0_13 : ByteArray) (a0_14 : Int) (w : World) (p0 : decide (a0_0 < 1) = false) (p1 : decide (a0_0 > 16) = false) (p2 : decide (a0_1 < 1) = false) (p3 : decide (a0_1 > 1152921504606846976) = false) (p8 : decide (a0_8 < 0) = false) (hd : ∀ W, Calls Try.prog 80 #[.agg #[.int .i64 a0_4, .string a0_5, .string a0_6, .int .i64 a0_7]] W fun e w' => e = .returned (.int .i64 0) ∧ Below W.heap.size W w') (hk : (a0_3.toList == a0_5.toList) = true) (h_a0_13 : a0_13.toList.isEmpty = false) :
    Calls Try.prog 43 #[.agg #[.int .i64 a0_0, .int .i64 a0_1, .bool false, .string a0_3, .int .i64 a0_4, .string a0_5, .string a0_6, .int .i64 a0_7, .int .i64 a0_8, .int .i64 (-1), .int .i64 a0_10, .int .i64 a0_11, .string (⟨#[]⟩ : ByteArray), .string a0_13, .int .i64 a0_14, .bool false]] w fun e w' => e = .returned (.bool false) ∧ Below w.heap.size w w' := by
  have hu39 := Try.underlying39
  have hu32 := Try.underlying32
  have hu35 := Try.underlying35
  have hu37 := Try.underlying37
  have HP := Lib.hid (fun W => plainOp_ax a0_4 a0_5 a0_6 a0_7 W)
  have HD := Lib.hid hd
  clear hd
  go_enter Try.func43, Try.ntmps43
  go_upto_region 1 with (fail)
  obtain ⟨B, hB⟩ : ∃ B, RowKit.Hid (B = w.heap.size) := ⟨_, Lib.hid rfl⟩
  obtain ⟨W1, hW1⟩ : ∃ W1, w.alloc (.cells #[.int .i64 a0_0, .int .i64 a0_1, .bool false, .string a0_3, .int .i64 a0_4, .string a0_5, .string a0_6, .int .i64 a0_7, .int .i64 a0_8, .int .i64 (-1), .int .i64 a0_10, .int .i64 a0_11, .string (⟨#[]⟩ : ByteArray), .string a0_13, .int .i64 a0_14, .bool false] 39) = W1 := ⟨_, rfl⟩
  have g1 : W1.heap[B]? = some (.cells #[.int .i64 a0_0, .int .i64 a0_1, .bool false, .string a0_3, .int .i64 a0_4, .string a0_5, .string a0_6, .int .i64 a0_7, .int .i64 a0_8, .int .i64 (-1), .int .i64 a0_10, .int .i64 a0_11, .string (⟨#[]⟩ : ByteArray), .string a0_13, .int .i64 a0_14, .bool false] 39 (0, 0)) := by rw [← hW1, hB.out]; exact heap_alloc_new w _
  have b1 : Below w.heap.size w W1 := by rw [← hW1]; exact (Below.refl _ _).alloc (Nat.le_refl _) _
  rw [hW1, ← hB.out]
  clear hW1
  obtain ⟨z0, z1, z2, z3, z4, z5, z6, z7, z8, z9, z10, z11, z12, z13, z14, z15⟩ := cells16 g1
  have G1 := Lib.hid (And.intro g1 b1)
  clear g1 b1
  go_wp2_with (first
    | (go_at_call 81; refine (HP.out _).mono ?_; rintro e w2 ⟨rfl, hb1⟩; have g2 := blk_below (by first | exact G1.out.1 | exact blk_drewN G1.out.1 _) hb1; have b2 : Below w.heap.size w w2 := (by first | exact G1.out.2 | exact pw_below_drewN G1.out.2 _ : Below w.heap.size w _).trans (hb1.mono (by first | exact G1.out.2.size | exact (pw_below_drewN G1.out.2 _).size)); have hz2 : B < w2.heap.size := blk_lt g2; obtain ⟨y0, y1, y2, y3, y4, y5, y6, y7, y8, y9, y10, y11, y12, y13, y14, y15⟩ := cells16 g2; clear z0 z1 z2 z3 z4 z5 z6 z7 z8 z9 z10 z11 z12 z13 z14 z15; have G2 := Lib.hid (And.intro g2 b2); clear g2 b2 hb1)
    | (go_at_call 80; refine (HD.out _).mono ?_; rintro e w3 ⟨rfl, hb2⟩; have g3 := blk_below (by first | exact G2.out.1 | exact blk_drewN G2.out.1 _) hb2; have b3 : Below w.heap.size w w3 := (by first | exact G2.out.2 | exact pw_below_drewN G2.out.2 _ : Below w.heap.size w _).trans (hb2.mono (by first | exact G2.out.2.size | exact (pw_below_drewN G2.out.2 _).size)); have hz3 : B < w3.heap.size := blk_lt g3; obtain ⟨v0, v1, v2, v3, v4, v5, v6, v7, v8, v9, v10, v11, v12, v13, v14, v15⟩ := cells16 g3; clear y0 y1 y2 y3 y4 y5 y6 y7 y8 y9 y10 y11 y12 y13 y14 y15 hz2; have G3 := Lib.hid (And.intro g3 b3); clear g3 b3 hb2)
    | ((with_reducible refine gate_dst (N := 64) rfl ?_); (try (refine gate_guard (by rfl) ?_; dsimp only)); refine wpList_load_row rfl 39 (.tmp 1) rfl B rfl 39 #[.int .i64 a0_0, .int .i64 a0_1, .bool false, .string a0_3, .int .i64 a0_4, .string a0_5, .string a0_6, .int .i64 a0_7, .int .i64 a0_8, .int .i64 (-1), .int .i64 a0_10, .int .i64 a0_11, .string (⟨#[]⟩ : ByteArray), .string a0_13, .int .i64 a0_14, .bool false] (0, 0) _ (by first | exact G5.out.1 | exact blk_drewN G5.out.1 _ | exact G4.out.1 | exact blk_drewN G4.out.1 _ | exact G3.out.1 | exact blk_drewN G3.out.1 _ | exact G2.out.1 | exact blk_drewN G2.out.1 _ | exact G1.out.1 | exact blk_drewN G1.out.1 _) Try.underlying39 rfl (by kernel_rfl) ?_)
    | ((with_reducible refine gate_dst (N := 96) rfl ?_); (try (refine gate_guard (by rfl) ?_; dsimp only)); refine wpList_load_row rfl 39 (.tmp 1) rfl B rfl 39 #[.int .i64 a0_0, .int .i64 a0_1, .bool false, .string a0_3, .int .i64 a0_4, .string a0_5, .string a0_6, .int .i64 a0_7, .int .i64 a0_8, .int .i64 (-1), .int .i64 a0_10, .int .i64 a0_11, .string (⟨#[]⟩ : ByteArray), .string a0_13, .int .i64 a0_14, .bool false] (0, 0) _ (by first | exact G5.out.1 | exact blk_drewN G5.out.1 _ | exact G4.out.1 | exact blk_drewN G4.out.1 _ | exact G3.out.1 | exact blk_drewN G3.out.1 _ | exact G2.out.1 | exact blk_drewN G2.out.1 _ | exact G1.out.1 | exact blk_drewN G1.out.1 _) Try.underlying39 rfl (by kernel_rfl) ?_)
    | (fail))
  go_ret
  exact ⟨by first | rfl | simp, by with_reducible first | exact G3.out.2 | exact pw_below_drewN G3.out.2 _ | exact pw_below_drewN (pw_below_drewN G3.out.2 _) _ | exact G3.out.2.alloc G3.out.2.size _ | exact pw_below_drewN (G3.out.2.alloc G3.out.2.size _) _⟩
set_option maxRecDepth 100000 in
theorem may_zw14 (a0_0 : Int) (a0_1 : Int) (a0_3 : ByteArray) (a0_4 : Int) (a0_5 : ByteArray) (a0_6 : ByteArray) (a0_7 : Int) (a0_8 : Int) (a0_10 : Int) (a0_11 : Int) (a0_14 : Int) (w : World) (p0 : decide (a0_0 < 1) = false) (p1 : decide (a0_0 > 16) = false) (p2 : decide (a0_1 < 1) = false) (p3 : decide (a0_1 > 1152921504606846976) = false) (p8 : decide (a0_8 < 0) = false) (hd : ∀ W, Calls Try.prog 80 #[.agg #[.int .i64 a0_4, .string a0_5, .string a0_6, .int .i64 a0_7]] W fun e w' => e = .returned (.int .i64 0) ∧ Below W.heap.size W w') (hk : (a0_3.toList == a0_5.toList) = true) (h_a0_14 : (a0_14 == 0) = false) :
    Calls Try.prog 43 #[.agg #[.int .i64 a0_0, .int .i64 a0_1, .bool false, .string a0_3, .int .i64 a0_4, .string a0_5, .string a0_6, .int .i64 a0_7, .int .i64 a0_8, .int .i64 (-1), .int .i64 a0_10, .int .i64 a0_11, .string (⟨#[]⟩ : ByteArray), .string (⟨#[]⟩ : ByteArray), .int .i64 a0_14, .bool false]] w fun e w' => e = .returned (.bool false) ∧ Below w.heap.size w w' := by
  have hu39 := Try.underlying39
  have hu32 := Try.underlying32
  have hu35 := Try.underlying35
  have hu37 := Try.underlying37
  have HP := Lib.hid (fun W => plainOp_ax a0_4 a0_5 a0_6 a0_7 W)
  have HD := Lib.hid hd
  clear hd
  go_enter Try.func43, Try.ntmps43
  go_upto_region 1 with (fail)
  obtain ⟨B, hB⟩ : ∃ B, RowKit.Hid (B = w.heap.size) := ⟨_, Lib.hid rfl⟩
  obtain ⟨W1, hW1⟩ : ∃ W1, w.alloc (.cells #[.int .i64 a0_0, .int .i64 a0_1, .bool false, .string a0_3, .int .i64 a0_4, .string a0_5, .string a0_6, .int .i64 a0_7, .int .i64 a0_8, .int .i64 (-1), .int .i64 a0_10, .int .i64 a0_11, .string (⟨#[]⟩ : ByteArray), .string (⟨#[]⟩ : ByteArray), .int .i64 a0_14, .bool false] 39) = W1 := ⟨_, rfl⟩
  have g1 : W1.heap[B]? = some (.cells #[.int .i64 a0_0, .int .i64 a0_1, .bool false, .string a0_3, .int .i64 a0_4, .string a0_5, .string a0_6, .int .i64 a0_7, .int .i64 a0_8, .int .i64 (-1), .int .i64 a0_10, .int .i64 a0_11, .string (⟨#[]⟩ : ByteArray), .string (⟨#[]⟩ : ByteArray), .int .i64 a0_14, .bool false] 39 (0, 0)) := by rw [← hW1, hB.out]; exact heap_alloc_new w _
  have b1 : Below w.heap.size w W1 := by rw [← hW1]; exact (Below.refl _ _).alloc (Nat.le_refl _) _
  rw [hW1, ← hB.out]
  clear hW1
  obtain ⟨z0, z1, z2, z3, z4, z5, z6, z7, z8, z9, z10, z11, z12, z13, z14, z15⟩ := cells16 g1
  have G1 := Lib.hid (And.intro g1 b1)
  clear g1 b1
  go_wp2_with (first
    | (go_at_call 81; refine (HP.out _).mono ?_; rintro e w2 ⟨rfl, hb1⟩; have g2 := blk_below (by first | exact G1.out.1 | exact blk_drewN G1.out.1 _) hb1; have b2 : Below w.heap.size w w2 := (by first | exact G1.out.2 | exact pw_below_drewN G1.out.2 _ : Below w.heap.size w _).trans (hb1.mono (by first | exact G1.out.2.size | exact (pw_below_drewN G1.out.2 _).size)); have hz2 : B < w2.heap.size := blk_lt g2; obtain ⟨y0, y1, y2, y3, y4, y5, y6, y7, y8, y9, y10, y11, y12, y13, y14, y15⟩ := cells16 g2; clear z0 z1 z2 z3 z4 z5 z6 z7 z8 z9 z10 z11 z12 z13 z14 z15; have G2 := Lib.hid (And.intro g2 b2); clear g2 b2 hb1)
    | (go_at_call 80; refine (HD.out _).mono ?_; rintro e w3 ⟨rfl, hb2⟩; have g3 := blk_below (by first | exact G2.out.1 | exact blk_drewN G2.out.1 _) hb2; have b3 : Below w.heap.size w w3 := (by first | exact G2.out.2 | exact pw_below_drewN G2.out.2 _ : Below w.heap.size w _).trans (hb2.mono (by first | exact G2.out.2.size | exact (pw_below_drewN G2.out.2 _).size)); have hz3 : B < w3.heap.size := blk_lt g3; obtain ⟨v0, v1, v2, v3, v4, v5, v6, v7, v8, v9, v10, v11, v12, v13, v14, v15⟩ := cells16 g3; clear y0 y1 y2 y3 y4 y5 y6 y7 y8 y9 y10 y11 y12 y13 y14 y15 hz2; have G3 := Lib.hid (And.intro g3 b3); clear g3 b3 hb2)
    | ((with_reducible refine gate_dst (N := 64) rfl ?_); (try (refine gate_guard (by rfl) ?_; dsimp only)); refine wpList_load_row rfl 39 (.tmp 1) rfl B rfl 39 #[.int .i64 a0_0, .int .i64 a0_1, .bool false, .string a0_3, .int .i64 a0_4, .string a0_5, .string a0_6, .int .i64 a0_7, .int .i64 a0_8, .int .i64 (-1), .int .i64 a0_10, .int .i64 a0_11, .string (⟨#[]⟩ : ByteArray), .string (⟨#[]⟩ : ByteArray), .int .i64 a0_14, .bool false] (0, 0) _ (by first | exact G5.out.1 | exact blk_drewN G5.out.1 _ | exact G4.out.1 | exact blk_drewN G4.out.1 _ | exact G3.out.1 | exact blk_drewN G3.out.1 _ | exact G2.out.1 | exact blk_drewN G2.out.1 _ | exact G1.out.1 | exact blk_drewN G1.out.1 _) Try.underlying39 rfl (by kernel_rfl) ?_)
    | ((with_reducible refine gate_dst (N := 96) rfl ?_); (try (refine gate_guard (by rfl) ?_; dsimp only)); refine wpList_load_row rfl 39 (.tmp 1) rfl B rfl 39 #[.int .i64 a0_0, .int .i64 a0_1, .bool false, .string a0_3, .int .i64 a0_4, .string a0_5, .string a0_6, .int .i64 a0_7, .int .i64 a0_8, .int .i64 (-1), .int .i64 a0_10, .int .i64 a0_11, .string (⟨#[]⟩ : ByteArray), .string (⟨#[]⟩ : ByteArray), .int .i64 a0_14, .bool false] (0, 0) _ (by first | exact G5.out.1 | exact blk_drewN G5.out.1 _ | exact G4.out.1 | exact blk_drewN G4.out.1 _ | exact G3.out.1 | exact blk_drewN G3.out.1 _ | exact G2.out.1 | exact blk_drewN G2.out.1 _ | exact G1.out.1 | exact blk_drewN G1.out.1 _) Try.underlying39 rfl (by kernel_rfl) ?_)
    | (fail))
  go_ret
  exact ⟨by first | rfl | simp, by with_reducible first | exact G3.out.2 | exact pw_below_drewN G3.out.2 _ | exact pw_below_drewN (pw_below_drewN G3.out.2 _) _ | exact G3.out.2.alloc G3.out.2.size _ | exact pw_below_drewN (G3.out.2.alloc G3.out.2.size _) _⟩
set_option maxRecDepth 100000 in
theorem may_zn10 (a0_0 : Int) (a0_1 : Int) (a0_3 : ByteArray) (a0_4 : Int) (a0_5 : ByteArray) (a0_6 : ByteArray) (a0_7 : Int) (a0_8 : Int) (a0_10 : Int) (a0_11 : Int) (w : World) (p0 : decide (a0_0 < 1) = false) (p1 : decide (a0_0 > 16) = false) (p2 : decide (a0_1 < 1) = false) (p3 : decide (a0_1 > 1152921504606846976) = false) (p8 : decide (a0_8 < 0) = false) (hd : ∀ W, Calls Try.prog 80 #[.agg #[.int .i64 a0_4, .string a0_5, .string a0_6, .int .i64 a0_7]] W fun e w' => e = .returned (.int .i64 0) ∧ Below W.heap.size W w') (hk : (a0_3.toList == a0_5.toList) = true) (h_a0_10 : (a0_10 == 0) = false) :
    Calls Try.prog 43 #[.agg #[.int .i64 a0_0, .int .i64 a0_1, .bool false, .string a0_3, .int .i64 a0_4, .string a0_5, .string a0_6, .int .i64 a0_7, .int .i64 a0_8, .int .i64 (-1), .int .i64 a0_10, .int .i64 a0_11, .string (⟨#[]⟩ : ByteArray), .string (⟨#[]⟩ : ByteArray), .int .i64 0, .bool false]] w fun e w' => e = .returned (.bool false) ∧ Below w.heap.size w w' := by
  have hu39 := Try.underlying39
  have hu32 := Try.underlying32
  have hu35 := Try.underlying35
  have hu37 := Try.underlying37
  have HP := Lib.hid (fun W => plainOp_ax a0_4 a0_5 a0_6 a0_7 W)
  have HD := Lib.hid hd
  clear hd
  have HA := Lib.hid (fun W => ranswered_any (a0_0) (a0_1) (false) (a0_3) (a0_4) (a0_5) (a0_6) (a0_7) (a0_8) ((-1)) (a0_10) (a0_11) ((⟨#[]⟩ : ByteArray)) ((⟨#[]⟩ : ByteArray)) (0) (false) false (by decide) W)
  go_enter Try.func43, Try.ntmps43
  go_upto_region 1 with (fail)
  obtain ⟨B, hB⟩ : ∃ B, RowKit.Hid (B = w.heap.size) := ⟨_, Lib.hid rfl⟩
  obtain ⟨W1, hW1⟩ : ∃ W1, w.alloc (.cells #[.int .i64 a0_0, .int .i64 a0_1, .bool false, .string a0_3, .int .i64 a0_4, .string a0_5, .string a0_6, .int .i64 a0_7, .int .i64 a0_8, .int .i64 (-1), .int .i64 a0_10, .int .i64 a0_11, .string (⟨#[]⟩ : ByteArray), .string (⟨#[]⟩ : ByteArray), .int .i64 0, .bool false] 39) = W1 := ⟨_, rfl⟩
  have g1 : W1.heap[B]? = some (.cells #[.int .i64 a0_0, .int .i64 a0_1, .bool false, .string a0_3, .int .i64 a0_4, .string a0_5, .string a0_6, .int .i64 a0_7, .int .i64 a0_8, .int .i64 (-1), .int .i64 a0_10, .int .i64 a0_11, .string (⟨#[]⟩ : ByteArray), .string (⟨#[]⟩ : ByteArray), .int .i64 0, .bool false] 39 (0, 0)) := by rw [← hW1, hB.out]; exact heap_alloc_new w _
  have b1 : Below w.heap.size w W1 := by rw [← hW1]; exact (Below.refl _ _).alloc (Nat.le_refl _) _
  rw [hW1, ← hB.out]
  clear hW1
  obtain ⟨z0, z1, z2, z3, z4, z5, z6, z7, z8, z9, z10, z11, z12, z13, z14, z15⟩ := cells16 g1
  have G1 := Lib.hid (And.intro g1 b1)
  clear g1 b1
  go_wp2_with (first
    | (go_at_call 81; refine (HP.out _).mono ?_; rintro e w2 ⟨rfl, hb1⟩; have g2 := blk_below (by first | exact G1.out.1 | exact blk_drewN G1.out.1 _) hb1; have b2 : Below w.heap.size w w2 := (by first | exact G1.out.2 | exact pw_below_drewN G1.out.2 _ : Below w.heap.size w _).trans (hb1.mono (by first | exact G1.out.2.size | exact (pw_below_drewN G1.out.2 _).size)); have hz2 : B < w2.heap.size := blk_lt g2; obtain ⟨y0, y1, y2, y3, y4, y5, y6, y7, y8, y9, y10, y11, y12, y13, y14, y15⟩ := cells16 g2; clear z0 z1 z2 z3 z4 z5 z6 z7 z8 z9 z10 z11 z12 z13 z14 z15; have G2 := Lib.hid (And.intro g2 b2); clear g2 b2 hb1)
    | (go_at_call 80; refine (HD.out _).mono ?_; rintro e w3 ⟨rfl, hb2⟩; have g3 := blk_below (by first | exact G2.out.1 | exact blk_drewN G2.out.1 _) hb2; have b3 : Below w.heap.size w w3 := (by first | exact G2.out.2 | exact pw_below_drewN G2.out.2 _ : Below w.heap.size w _).trans (hb2.mono (by first | exact G2.out.2.size | exact (pw_below_drewN G2.out.2 _).size)); have hz3 : B < w3.heap.size := blk_lt g3; obtain ⟨v0, v1, v2, v3, v4, v5, v6, v7, v8, v9, v10, v11, v12, v13, v14, v15⟩ := cells16 g3; clear y0 y1 y2 y3 y4 y5 y6 y7 y8 y9 y10 y11 y12 y13 y14 y15 hz2; have G3 := Lib.hid (And.intro g3 b3); clear g3 b3 hb2)
    | (go_at_call 44; refine (HA.out _).mono ?_; rintro e w4 ⟨rfl, hb3⟩; have g4 := blk_below (by first | exact G3.out.1 | exact blk_drewN G3.out.1 _) hb3; have b4 : Below w.heap.size w w4 := (by first | exact G3.out.2 | exact pw_below_drewN G3.out.2 _ : Below w.heap.size w _).trans (hb3.mono (by first | exact G3.out.2.size | exact (pw_below_drewN G3.out.2 _).size)); have hz4 : B < w4.heap.size := blk_lt g4; obtain ⟨u0, u1, u2, u3, u4, u5, u6, u7, u8, u9, u10, u11, u12, u13, u14, u15⟩ := cells16 g4; clear v0 v1 v2 v3 v4 v5 v6 v7 v8 v9 v10 v11 v12 v13 v14 v15 hz3; have G4 := Lib.hid (And.intro g4 b4); clear g4 b4 hb3)
    | ((with_reducible refine gate_dst (N := 64) rfl ?_); (try (refine gate_guard (by rfl) ?_; dsimp only)); refine wpList_load_row rfl 39 (.tmp 1) rfl B rfl 39 #[.int .i64 a0_0, .int .i64 a0_1, .bool false, .string a0_3, .int .i64 a0_4, .string a0_5, .string a0_6, .int .i64 a0_7, .int .i64 a0_8, .int .i64 (-1), .int .i64 a0_10, .int .i64 a0_11, .string (⟨#[]⟩ : ByteArray), .string (⟨#[]⟩ : ByteArray), .int .i64 0, .bool false] (0, 0) _ (by first | exact G5.out.1 | exact blk_drewN G5.out.1 _ | exact G4.out.1 | exact blk_drewN G4.out.1 _ | exact G3.out.1 | exact blk_drewN G3.out.1 _ | exact G2.out.1 | exact blk_drewN G2.out.1 _ | exact G1.out.1 | exact blk_drewN G1.out.1 _) Try.underlying39 rfl (by kernel_rfl) ?_)
    | ((with_reducible refine gate_dst (N := 96) rfl ?_); (try (refine gate_guard (by rfl) ?_; dsimp only)); refine wpList_load_row rfl 39 (.tmp 1) rfl B rfl 39 #[.int .i64 a0_0, .int .i64 a0_1, .bool false, .string a0_3, .int .i64 a0_4, .string a0_5, .string a0_6, .int .i64 a0_7, .int .i64 a0_8, .int .i64 (-1), .int .i64 a0_10, .int .i64 a0_11, .string (⟨#[]⟩ : ByteArray), .string (⟨#[]⟩ : ByteArray), .int .i64 0, .bool false] (0, 0) _ (by first | exact G5.out.1 | exact blk_drewN G5.out.1 _ | exact G4.out.1 | exact blk_drewN G4.out.1 _ | exact G3.out.1 | exact blk_drewN G3.out.1 _ | exact G2.out.1 | exact blk_drewN G2.out.1 _ | exact G1.out.1 | exact blk_drewN G1.out.1 _) Try.underlying39 rfl (by kernel_rfl) ?_)
    | (fail))
  go_ret
  exact ⟨by first | rfl | simp, by with_reducible first | exact G4.out.2 | exact pw_below_drewN G4.out.2 _ | exact pw_below_drewN (pw_below_drewN G4.out.2 _) _ | exact G4.out.2.alloc G4.out.2.size _ | exact pw_below_drewN (G4.out.2.alloc G4.out.2.size _) _⟩
set_option maxRecDepth 100000 in
theorem may_zn11 (a0_0 : Int) (a0_1 : Int) (a0_3 : ByteArray) (a0_4 : Int) (a0_5 : ByteArray) (a0_6 : ByteArray) (a0_7 : Int) (a0_8 : Int) (a0_11 : Int) (w : World) (p0 : decide (a0_0 < 1) = false) (p1 : decide (a0_0 > 16) = false) (p2 : decide (a0_1 < 1) = false) (p3 : decide (a0_1 > 1152921504606846976) = false) (p8 : decide (a0_8 < 0) = false) (hd : ∀ W, Calls Try.prog 80 #[.agg #[.int .i64 a0_4, .string a0_5, .string a0_6, .int .i64 a0_7]] W fun e w' => e = .returned (.int .i64 0) ∧ Below W.heap.size W w') (hk : (a0_3.toList == a0_5.toList) = true) (h_a0_11 : (a0_11 == 0) = false) :
    Calls Try.prog 43 #[.agg #[.int .i64 a0_0, .int .i64 a0_1, .bool false, .string a0_3, .int .i64 a0_4, .string a0_5, .string a0_6, .int .i64 a0_7, .int .i64 a0_8, .int .i64 (-1), .int .i64 0, .int .i64 a0_11, .string (⟨#[]⟩ : ByteArray), .string (⟨#[]⟩ : ByteArray), .int .i64 0, .bool false]] w fun e w' => e = .returned (.bool false) ∧ Below w.heap.size w w' := by
  have hu39 := Try.underlying39
  have hu32 := Try.underlying32
  have hu35 := Try.underlying35
  have hu37 := Try.underlying37
  have HP := Lib.hid (fun W => plainOp_ax a0_4 a0_5 a0_6 a0_7 W)
  have HD := Lib.hid hd
  clear hd
  have HA := Lib.hid (fun W => ranswered_any (a0_0) (a0_1) (false) (a0_3) (a0_4) (a0_5) (a0_6) (a0_7) (a0_8) ((-1)) (0) (a0_11) ((⟨#[]⟩ : ByteArray)) ((⟨#[]⟩ : ByteArray)) (0) (false) false (by decide) W)
  go_enter Try.func43, Try.ntmps43
  go_upto_region 1 with (fail)
  obtain ⟨B, hB⟩ : ∃ B, RowKit.Hid (B = w.heap.size) := ⟨_, Lib.hid rfl⟩
  obtain ⟨W1, hW1⟩ : ∃ W1, w.alloc (.cells #[.int .i64 a0_0, .int .i64 a0_1, .bool false, .string a0_3, .int .i64 a0_4, .string a0_5, .string a0_6, .int .i64 a0_7, .int .i64 a0_8, .int .i64 (-1), .int .i64 0, .int .i64 a0_11, .string (⟨#[]⟩ : ByteArray), .string (⟨#[]⟩ : ByteArray), .int .i64 0, .bool false] 39) = W1 := ⟨_, rfl⟩
  have g1 : W1.heap[B]? = some (.cells #[.int .i64 a0_0, .int .i64 a0_1, .bool false, .string a0_3, .int .i64 a0_4, .string a0_5, .string a0_6, .int .i64 a0_7, .int .i64 a0_8, .int .i64 (-1), .int .i64 0, .int .i64 a0_11, .string (⟨#[]⟩ : ByteArray), .string (⟨#[]⟩ : ByteArray), .int .i64 0, .bool false] 39 (0, 0)) := by rw [← hW1, hB.out]; exact heap_alloc_new w _
  have b1 : Below w.heap.size w W1 := by rw [← hW1]; exact (Below.refl _ _).alloc (Nat.le_refl _) _
  rw [hW1, ← hB.out]
  clear hW1
  obtain ⟨z0, z1, z2, z3, z4, z5, z6, z7, z8, z9, z10, z11, z12, z13, z14, z15⟩ := cells16 g1
  have G1 := Lib.hid (And.intro g1 b1)
  clear g1 b1
  go_wp2_with (first
    | (go_at_call 81; refine (HP.out _).mono ?_; rintro e w2 ⟨rfl, hb1⟩; have g2 := blk_below (by first | exact G1.out.1 | exact blk_drewN G1.out.1 _) hb1; have b2 : Below w.heap.size w w2 := (by first | exact G1.out.2 | exact pw_below_drewN G1.out.2 _ : Below w.heap.size w _).trans (hb1.mono (by first | exact G1.out.2.size | exact (pw_below_drewN G1.out.2 _).size)); have hz2 : B < w2.heap.size := blk_lt g2; obtain ⟨y0, y1, y2, y3, y4, y5, y6, y7, y8, y9, y10, y11, y12, y13, y14, y15⟩ := cells16 g2; clear z0 z1 z2 z3 z4 z5 z6 z7 z8 z9 z10 z11 z12 z13 z14 z15; have G2 := Lib.hid (And.intro g2 b2); clear g2 b2 hb1)
    | (go_at_call 80; refine (HD.out _).mono ?_; rintro e w3 ⟨rfl, hb2⟩; have g3 := blk_below (by first | exact G2.out.1 | exact blk_drewN G2.out.1 _) hb2; have b3 : Below w.heap.size w w3 := (by first | exact G2.out.2 | exact pw_below_drewN G2.out.2 _ : Below w.heap.size w _).trans (hb2.mono (by first | exact G2.out.2.size | exact (pw_below_drewN G2.out.2 _).size)); have hz3 : B < w3.heap.size := blk_lt g3; obtain ⟨v0, v1, v2, v3, v4, v5, v6, v7, v8, v9, v10, v11, v12, v13, v14, v15⟩ := cells16 g3; clear y0 y1 y2 y3 y4 y5 y6 y7 y8 y9 y10 y11 y12 y13 y14 y15 hz2; have G3 := Lib.hid (And.intro g3 b3); clear g3 b3 hb2)
    | (go_at_call 44; refine (HA.out _).mono ?_; rintro e w4 ⟨rfl, hb3⟩; have g4 := blk_below (by first | exact G3.out.1 | exact blk_drewN G3.out.1 _) hb3; have b4 : Below w.heap.size w w4 := (by first | exact G3.out.2 | exact pw_below_drewN G3.out.2 _ : Below w.heap.size w _).trans (hb3.mono (by first | exact G3.out.2.size | exact (pw_below_drewN G3.out.2 _).size)); have hz4 : B < w4.heap.size := blk_lt g4; obtain ⟨u0, u1, u2, u3, u4, u5, u6, u7, u8, u9, u10, u11, u12, u13, u14, u15⟩ := cells16 g4; clear v0 v1 v2 v3 v4 v5 v6 v7 v8 v9 v10 v11 v12 v13 v14 v15 hz3; have G4 := Lib.hid (And.intro g4 b4); clear g4 b4 hb3)
    | ((with_reducible refine gate_dst (N := 64) rfl ?_); (try (refine gate_guard (by rfl) ?_; dsimp only)); refine wpList_load_row rfl 39 (.tmp 1) rfl B rfl 39 #[.int .i64 a0_0, .int .i64 a0_1, .bool false, .string a0_3, .int .i64 a0_4, .string a0_5, .string a0_6, .int .i64 a0_7, .int .i64 a0_8, .int .i64 (-1), .int .i64 0, .int .i64 a0_11, .string (⟨#[]⟩ : ByteArray), .string (⟨#[]⟩ : ByteArray), .int .i64 0, .bool false] (0, 0) _ (by first | exact G5.out.1 | exact blk_drewN G5.out.1 _ | exact G4.out.1 | exact blk_drewN G4.out.1 _ | exact G3.out.1 | exact blk_drewN G3.out.1 _ | exact G2.out.1 | exact blk_drewN G2.out.1 _ | exact G1.out.1 | exact blk_drewN G1.out.1 _) Try.underlying39 rfl (by kernel_rfl) ?_)
    | ((with_reducible refine gate_dst (N := 96) rfl ?_); (try (refine gate_guard (by rfl) ?_; dsimp only)); refine wpList_load_row rfl 39 (.tmp 1) rfl B rfl 39 #[.int .i64 a0_0, .int .i64 a0_1, .bool false, .string a0_3, .int .i64 a0_4, .string a0_5, .string a0_6, .int .i64 a0_7, .int .i64 a0_8, .int .i64 (-1), .int .i64 0, .int .i64 a0_11, .string (⟨#[]⟩ : ByteArray), .string (⟨#[]⟩ : ByteArray), .int .i64 0, .bool false] (0, 0) _ (by first | exact G5.out.1 | exact blk_drewN G5.out.1 _ | exact G4.out.1 | exact blk_drewN G4.out.1 _ | exact G3.out.1 | exact blk_drewN G3.out.1 _ | exact G2.out.1 | exact blk_drewN G2.out.1 _ | exact G1.out.1 | exact blk_drewN G1.out.1 _) Try.underlying39 rfl (by kernel_rfl) ?_)
    | (fail))
  go_ret
  exact ⟨by first | rfl | simp, by with_reducible first | exact G4.out.2 | exact pw_below_drewN G4.out.2 _ | exact pw_below_drewN (pw_below_drewN G4.out.2 _) _ | exact G4.out.2.alloc G4.out.2.size _ | exact pw_below_drewN (G4.out.2.alloc G4.out.2.size _) _⟩
set_option maxRecDepth 100000 in
theorem may_znz (a0_0 : Int) (a0_1 : Int) (a0_3 : ByteArray) (a0_4 : Int) (a0_5 : ByteArray) (a0_6 : ByteArray) (a0_7 : Int) (a0_8 : Int) (w : World) (p0 : decide (a0_0 < 1) = false) (p1 : decide (a0_0 > 16) = false) (p2 : decide (a0_1 < 1) = false) (p3 : decide (a0_1 > 1152921504606846976) = false) (p8 : decide (a0_8 < 0) = false) (hd : ∀ W, Calls Try.prog 80 #[.agg #[.int .i64 a0_4, .string a0_5, .string a0_6, .int .i64 a0_7]] W fun e w' => e = .returned (.int .i64 0) ∧ Below W.heap.size W w') (hk : (a0_3.toList == a0_5.toList) = true) :
    Calls Try.prog 43 #[.agg #[.int .i64 a0_0, .int .i64 a0_1, .bool false, .string a0_3, .int .i64 a0_4, .string a0_5, .string a0_6, .int .i64 a0_7, .int .i64 a0_8, .int .i64 (-1), .int .i64 0, .int .i64 0, .string (⟨#[]⟩ : ByteArray), .string (⟨#[]⟩ : ByteArray), .int .i64 0, .bool false]] w fun e w' => e = .returned (.bool true) ∧ Below w.heap.size w w' := by
  have hu39 := Try.underlying39
  have hu32 := Try.underlying32
  have hu35 := Try.underlying35
  have hu37 := Try.underlying37
  have HP := Lib.hid (fun W => plainOp_ax a0_4 a0_5 a0_6 a0_7 W)
  have HD := Lib.hid hd
  clear hd
  have HA := Lib.hid (fun W => ranswered_any (a0_0) (a0_1) (false) (a0_3) (a0_4) (a0_5) (a0_6) (a0_7) (a0_8) ((-1)) (0) (0) ((⟨#[]⟩ : ByteArray)) ((⟨#[]⟩ : ByteArray)) (0) (false) false (by decide) W)
  go_enter Try.func43, Try.ntmps43
  go_upto_region 1 with (fail)
  obtain ⟨B, hB⟩ : ∃ B, RowKit.Hid (B = w.heap.size) := ⟨_, Lib.hid rfl⟩
  obtain ⟨W1, hW1⟩ : ∃ W1, w.alloc (.cells #[.int .i64 a0_0, .int .i64 a0_1, .bool false, .string a0_3, .int .i64 a0_4, .string a0_5, .string a0_6, .int .i64 a0_7, .int .i64 a0_8, .int .i64 (-1), .int .i64 0, .int .i64 0, .string (⟨#[]⟩ : ByteArray), .string (⟨#[]⟩ : ByteArray), .int .i64 0, .bool false] 39) = W1 := ⟨_, rfl⟩
  have g1 : W1.heap[B]? = some (.cells #[.int .i64 a0_0, .int .i64 a0_1, .bool false, .string a0_3, .int .i64 a0_4, .string a0_5, .string a0_6, .int .i64 a0_7, .int .i64 a0_8, .int .i64 (-1), .int .i64 0, .int .i64 0, .string (⟨#[]⟩ : ByteArray), .string (⟨#[]⟩ : ByteArray), .int .i64 0, .bool false] 39 (0, 0)) := by rw [← hW1, hB.out]; exact heap_alloc_new w _
  have b1 : Below w.heap.size w W1 := by rw [← hW1]; exact (Below.refl _ _).alloc (Nat.le_refl _) _
  rw [hW1, ← hB.out]
  clear hW1
  obtain ⟨z0, z1, z2, z3, z4, z5, z6, z7, z8, z9, z10, z11, z12, z13, z14, z15⟩ := cells16 g1
  have G1 := Lib.hid (And.intro g1 b1)
  clear g1 b1
  go_wp2_with (first
    | (go_at_call 81; refine (HP.out _).mono ?_; rintro e w2 ⟨rfl, hb1⟩; have g2 := blk_below (by first | exact G1.out.1 | exact blk_drewN G1.out.1 _) hb1; have b2 : Below w.heap.size w w2 := (by first | exact G1.out.2 | exact pw_below_drewN G1.out.2 _ : Below w.heap.size w _).trans (hb1.mono (by first | exact G1.out.2.size | exact (pw_below_drewN G1.out.2 _).size)); have hz2 : B < w2.heap.size := blk_lt g2; obtain ⟨y0, y1, y2, y3, y4, y5, y6, y7, y8, y9, y10, y11, y12, y13, y14, y15⟩ := cells16 g2; clear z0 z1 z2 z3 z4 z5 z6 z7 z8 z9 z10 z11 z12 z13 z14 z15; have G2 := Lib.hid (And.intro g2 b2); clear g2 b2 hb1)
    | (go_at_call 80; refine (HD.out _).mono ?_; rintro e w3 ⟨rfl, hb2⟩; have g3 := blk_below (by first | exact G2.out.1 | exact blk_drewN G2.out.1 _) hb2; have b3 : Below w.heap.size w w3 := (by first | exact G2.out.2 | exact pw_below_drewN G2.out.2 _ : Below w.heap.size w _).trans (hb2.mono (by first | exact G2.out.2.size | exact (pw_below_drewN G2.out.2 _).size)); have hz3 : B < w3.heap.size := blk_lt g3; obtain ⟨v0, v1, v2, v3, v4, v5, v6, v7, v8, v9, v10, v11, v12, v13, v14, v15⟩ := cells16 g3; clear y0 y1 y2 y3 y4 y5 y6 y7 y8 y9 y10 y11 y12 y13 y14 y15 hz2; have G3 := Lib.hid (And.intro g3 b3); clear g3 b3 hb2)
    | (go_at_call 44; refine (HA.out _).mono ?_; rintro e w4 ⟨rfl, hb3⟩; have g4 := blk_below (by first | exact G3.out.1 | exact blk_drewN G3.out.1 _) hb3; have b4 : Below w.heap.size w w4 := (by first | exact G3.out.2 | exact pw_below_drewN G3.out.2 _ : Below w.heap.size w _).trans (hb3.mono (by first | exact G3.out.2.size | exact (pw_below_drewN G3.out.2 _).size)); have hz4 : B < w4.heap.size := blk_lt g4; obtain ⟨u0, u1, u2, u3, u4, u5, u6, u7, u8, u9, u10, u11, u12, u13, u14, u15⟩ := cells16 g4; clear v0 v1 v2 v3 v4 v5 v6 v7 v8 v9 v10 v11 v12 v13 v14 v15 hz3; have G4 := Lib.hid (And.intro g4 b4); clear g4 b4 hb3)
    | ((with_reducible refine gate_dst (N := 64) rfl ?_); (try (refine gate_guard (by rfl) ?_; dsimp only)); refine wpList_load_row rfl 39 (.tmp 1) rfl B rfl 39 #[.int .i64 a0_0, .int .i64 a0_1, .bool false, .string a0_3, .int .i64 a0_4, .string a0_5, .string a0_6, .int .i64 a0_7, .int .i64 a0_8, .int .i64 (-1), .int .i64 0, .int .i64 0, .string (⟨#[]⟩ : ByteArray), .string (⟨#[]⟩ : ByteArray), .int .i64 0, .bool false] (0, 0) _ (by first | exact G5.out.1 | exact blk_drewN G5.out.1 _ | exact G4.out.1 | exact blk_drewN G4.out.1 _ | exact G3.out.1 | exact blk_drewN G3.out.1 _ | exact G2.out.1 | exact blk_drewN G2.out.1 _ | exact G1.out.1 | exact blk_drewN G1.out.1 _) Try.underlying39 rfl (by kernel_rfl) ?_)
    | ((with_reducible refine gate_dst (N := 96) rfl ?_); (try (refine gate_guard (by rfl) ?_; dsimp only)); refine wpList_load_row rfl 39 (.tmp 1) rfl B rfl 39 #[.int .i64 a0_0, .int .i64 a0_1, .bool false, .string a0_3, .int .i64 a0_4, .string a0_5, .string a0_6, .int .i64 a0_7, .int .i64 a0_8, .int .i64 (-1), .int .i64 0, .int .i64 0, .string (⟨#[]⟩ : ByteArray), .string (⟨#[]⟩ : ByteArray), .int .i64 0, .bool false] (0, 0) _ (by first | exact G5.out.1 | exact blk_drewN G5.out.1 _ | exact G4.out.1 | exact blk_drewN G4.out.1 _ | exact G3.out.1 | exact blk_drewN G3.out.1 _ | exact G2.out.1 | exact blk_drewN G2.out.1 _ | exact G1.out.1 | exact blk_drewN G1.out.1 _) Try.underlying39 rfl (by kernel_rfl) ?_)
    | (fail))
  go_ret
  exact ⟨by first | rfl | simp, by with_reducible first | exact G4.out.2 | exact pw_below_drewN G4.out.2 _ | exact pw_below_drewN (pw_below_drewN G4.out.2 _) _ | exact G4.out.2.alloc G4.out.2.size _ | exact pw_below_drewN (G4.out.2.alloc G4.out.2.size _) _⟩
set_option maxRecDepth 100000 in
theorem may_zu (a0_0 : Int) (a0_1 : Int) (a0_3 : ByteArray) (a0_4 : Int) (a0_5 : ByteArray) (a0_6 : ByteArray) (a0_7 : Int) (a0_8 : Int) (a0_10 : Int) (a0_11 : Int) (a0_12 : ByteArray) (a0_13 : ByteArray) (a0_14 : Int) (a0_15 : Bool) (w : World) (p0 : decide (a0_0 < 1) = false) (p1 : decide (a0_0 > 16) = false) (p2 : decide (a0_1 < 1) = false) (p3 : decide (a0_1 > 1152921504606846976) = false) (p8 : decide (a0_8 < 0) = false) (hu : usrB a0_3 = false) :
    Calls Try.prog 43 #[.agg #[.int .i64 a0_0, .int .i64 a0_1, .bool true, .string a0_3, .int .i64 a0_4, .string a0_5, .string a0_6, .int .i64 a0_7, .int .i64 a0_8, .int .i64 (-1), .int .i64 a0_10, .int .i64 a0_11, .string a0_12, .string a0_13, .int .i64 a0_14, .bool a0_15]] w fun e w' => e = .returned (.bool false) ∧ Below w.heap.size w w' := by
  have hu39 := Try.underlying39
  have hu32 := Try.underlying32
  have hu35 := Try.underlying35
  have hu37 := Try.underlying37
  have HU := Lib.hid (fun W => user_ax a0_3 false hu W)
  clear hu
  go_enter Try.func43, Try.ntmps43
  go_upto_region 1 with (fail)
  obtain ⟨B, hB⟩ : ∃ B, RowKit.Hid (B = w.heap.size) := ⟨_, Lib.hid rfl⟩
  obtain ⟨W1, hW1⟩ : ∃ W1, w.alloc (.cells #[.int .i64 a0_0, .int .i64 a0_1, .bool true, .string a0_3, .int .i64 a0_4, .string a0_5, .string a0_6, .int .i64 a0_7, .int .i64 a0_8, .int .i64 (-1), .int .i64 a0_10, .int .i64 a0_11, .string a0_12, .string a0_13, .int .i64 a0_14, .bool a0_15] 39) = W1 := ⟨_, rfl⟩
  have g1 : W1.heap[B]? = some (.cells #[.int .i64 a0_0, .int .i64 a0_1, .bool true, .string a0_3, .int .i64 a0_4, .string a0_5, .string a0_6, .int .i64 a0_7, .int .i64 a0_8, .int .i64 (-1), .int .i64 a0_10, .int .i64 a0_11, .string a0_12, .string a0_13, .int .i64 a0_14, .bool a0_15] 39 (0, 0)) := by rw [← hW1, hB.out]; exact heap_alloc_new w _
  have b1 : Below w.heap.size w W1 := by rw [← hW1]; exact (Below.refl _ _).alloc (Nat.le_refl _) _
  rw [hW1, ← hB.out]
  clear hW1
  obtain ⟨z0, z1, z2, z3, z4, z5, z6, z7, z8, z9, z10, z11, z12, z13, z14, z15⟩ := cells16 g1
  have G1 := Lib.hid (And.intro g1 b1)
  clear g1 b1
  go_wp2_with (first
    | (go_at_call 83; ((with_reducible refine (HU.out _).mono ?_)); rintro e w' ⟨rfl, ⟨nd, rfl⟩⟩)
    | (fail))
  go_ret
  exact ⟨by first | rfl | simp, by with_reducible first | exact G1.out.2 | exact pw_below_drewN G1.out.2 _ | exact pw_below_drewN (pw_below_drewN G1.out.2 _) _ | exact G1.out.2.alloc G1.out.2.size _ | exact pw_below_drewN (G1.out.2.alloc G1.out.2.size _) _⟩
set_option maxRecDepth 100000 in
theorem may_zo4 (a0_0 : Int) (a0_1 : Int) (a0_3 : ByteArray) (a0_4 : Int) (a0_5 : ByteArray) (a0_6 : ByteArray) (a0_7 : Int) (a0_8 : Int) (a0_10 : Int) (a0_11 : Int) (a0_12 : ByteArray) (a0_13 : ByteArray) (a0_14 : Int) (a0_15 : Bool) (w : World) (p0 : decide (a0_0 < 1) = false) (p1 : decide (a0_0 > 16) = false) (p2 : decide (a0_1 < 1) = false) (p3 : decide (a0_1 > 1152921504606846976) = false) (p8 : decide (a0_8 < 0) = false) (hu : usrB a0_3 = true) (h_a0_4 : (a0_4 == 0) = false) :
    Calls Try.prog 43 #[.agg #[.int .i64 a0_0, .int .i64 a0_1, .bool true, .string a0_3, .int .i64 a0_4, .string a0_5, .string a0_6, .int .i64 a0_7, .int .i64 a0_8, .int .i64 (-1), .int .i64 a0_10, .int .i64 a0_11, .string a0_12, .string a0_13, .int .i64 a0_14, .bool a0_15]] w fun e w' => e = .returned (.bool false) ∧ Below w.heap.size w w' := by
  have hu39 := Try.underlying39
  have hu32 := Try.underlying32
  have hu35 := Try.underlying35
  have hu37 := Try.underlying37
  have HU := Lib.hid (fun W => user_ax a0_3 true hu W)
  clear hu
  go_enter Try.func43, Try.ntmps43
  go_upto_region 1 with (fail)
  obtain ⟨B, hB⟩ : ∃ B, RowKit.Hid (B = w.heap.size) := ⟨_, Lib.hid rfl⟩
  obtain ⟨W1, hW1⟩ : ∃ W1, w.alloc (.cells #[.int .i64 a0_0, .int .i64 a0_1, .bool true, .string a0_3, .int .i64 a0_4, .string a0_5, .string a0_6, .int .i64 a0_7, .int .i64 a0_8, .int .i64 (-1), .int .i64 a0_10, .int .i64 a0_11, .string a0_12, .string a0_13, .int .i64 a0_14, .bool a0_15] 39) = W1 := ⟨_, rfl⟩
  have g1 : W1.heap[B]? = some (.cells #[.int .i64 a0_0, .int .i64 a0_1, .bool true, .string a0_3, .int .i64 a0_4, .string a0_5, .string a0_6, .int .i64 a0_7, .int .i64 a0_8, .int .i64 (-1), .int .i64 a0_10, .int .i64 a0_11, .string a0_12, .string a0_13, .int .i64 a0_14, .bool a0_15] 39 (0, 0)) := by rw [← hW1, hB.out]; exact heap_alloc_new w _
  have b1 : Below w.heap.size w W1 := by rw [← hW1]; exact (Below.refl _ _).alloc (Nat.le_refl _) _
  rw [hW1, ← hB.out]
  clear hW1
  obtain ⟨z0, z1, z2, z3, z4, z5, z6, z7, z8, z9, z10, z11, z12, z13, z14, z15⟩ := cells16 g1
  have G1 := Lib.hid (And.intro g1 b1)
  clear g1 b1
  go_wp2_with (first
    | (go_at_call 83; ((with_reducible refine (HU.out _).mono ?_)); rintro e w' ⟨rfl, ⟨nd, rfl⟩⟩)
    | (fail))
  go_ret
  exact ⟨by first | rfl | simp, by with_reducible first | exact G1.out.2 | exact pw_below_drewN G1.out.2 _ | exact pw_below_drewN (pw_below_drewN G1.out.2 _) _ | exact G1.out.2.alloc G1.out.2.size _ | exact pw_below_drewN (G1.out.2.alloc G1.out.2.size _) _⟩
set_option maxRecDepth 100000 in
theorem may_zo5 (a0_0 : Int) (a0_1 : Int) (a0_3 : ByteArray) (a0_5 : ByteArray) (a0_6 : ByteArray) (a0_7 : Int) (a0_8 : Int) (a0_10 : Int) (a0_11 : Int) (a0_12 : ByteArray) (a0_13 : ByteArray) (a0_14 : Int) (a0_15 : Bool) (w : World) (p0 : decide (a0_0 < 1) = false) (p1 : decide (a0_0 > 16) = false) (p2 : decide (a0_1 < 1) = false) (p3 : decide (a0_1 > 1152921504606846976) = false) (p8 : decide (a0_8 < 0) = false) (hu : usrB a0_3 = true) (h_a0_5 : a0_5.toList.isEmpty = false) :
    Calls Try.prog 43 #[.agg #[.int .i64 a0_0, .int .i64 a0_1, .bool true, .string a0_3, .int .i64 0, .string a0_5, .string a0_6, .int .i64 a0_7, .int .i64 a0_8, .int .i64 (-1), .int .i64 a0_10, .int .i64 a0_11, .string a0_12, .string a0_13, .int .i64 a0_14, .bool a0_15]] w fun e w' => e = .returned (.bool false) ∧ Below w.heap.size w w' := by
  have hu39 := Try.underlying39
  have hu32 := Try.underlying32
  have hu35 := Try.underlying35
  have hu37 := Try.underlying37
  have HU := Lib.hid (fun W => user_ax a0_3 true hu W)
  clear hu
  go_enter Try.func43, Try.ntmps43
  go_upto_region 1 with (fail)
  obtain ⟨B, hB⟩ : ∃ B, RowKit.Hid (B = w.heap.size) := ⟨_, Lib.hid rfl⟩
  obtain ⟨W1, hW1⟩ : ∃ W1, w.alloc (.cells #[.int .i64 a0_0, .int .i64 a0_1, .bool true, .string a0_3, .int .i64 0, .string a0_5, .string a0_6, .int .i64 a0_7, .int .i64 a0_8, .int .i64 (-1), .int .i64 a0_10, .int .i64 a0_11, .string a0_12, .string a0_13, .int .i64 a0_14, .bool a0_15] 39) = W1 := ⟨_, rfl⟩
  have g1 : W1.heap[B]? = some (.cells #[.int .i64 a0_0, .int .i64 a0_1, .bool true, .string a0_3, .int .i64 0, .string a0_5, .string a0_6, .int .i64 a0_7, .int .i64 a0_8, .int .i64 (-1), .int .i64 a0_10, .int .i64 a0_11, .string a0_12, .string a0_13, .int .i64 a0_14, .bool a0_15] 39 (0, 0)) := by rw [← hW1, hB.out]; exact heap_alloc_new w _
  have b1 : Below w.heap.size w W1 := by rw [← hW1]; exact (Below.refl _ _).alloc (Nat.le_refl _) _
  rw [hW1, ← hB.out]
  clear hW1
  obtain ⟨z0, z1, z2, z3, z4, z5, z6, z7, z8, z9, z10, z11, z12, z13, z14, z15⟩ := cells16 g1
  have G1 := Lib.hid (And.intro g1 b1)
  clear g1 b1
  go_wp2_with (first
    | (go_at_call 83; ((with_reducible refine (HU.out _).mono ?_)); rintro e w' ⟨rfl, ⟨nd, rfl⟩⟩)
    | (fail))
  go_ret
  exact ⟨by first | rfl | simp, by with_reducible first | exact G1.out.2 | exact pw_below_drewN G1.out.2 _ | exact pw_below_drewN (pw_below_drewN G1.out.2 _) _ | exact G1.out.2.alloc G1.out.2.size _ | exact pw_below_drewN (G1.out.2.alloc G1.out.2.size _) _⟩
set_option maxRecDepth 100000 in
theorem may_zo6 (a0_0 : Int) (a0_1 : Int) (a0_3 : ByteArray) (a0_6 : ByteArray) (a0_7 : Int) (a0_8 : Int) (a0_10 : Int) (a0_11 : Int) (a0_12 : ByteArray) (a0_13 : ByteArray) (a0_14 : Int) (a0_15 : Bool) (w : World) (p0 : decide (a0_0 < 1) = false) (p1 : decide (a0_0 > 16) = false) (p2 : decide (a0_1 < 1) = false) (p3 : decide (a0_1 > 1152921504606846976) = false) (p8 : decide (a0_8 < 0) = false) (hu : usrB a0_3 = true) (h_a0_6 : a0_6.toList.isEmpty = false) :
    Calls Try.prog 43 #[.agg #[.int .i64 a0_0, .int .i64 a0_1, .bool true, .string a0_3, .int .i64 0, .string (⟨#[]⟩ : ByteArray), .string a0_6, .int .i64 a0_7, .int .i64 a0_8, .int .i64 (-1), .int .i64 a0_10, .int .i64 a0_11, .string a0_12, .string a0_13, .int .i64 a0_14, .bool a0_15]] w fun e w' => e = .returned (.bool false) ∧ Below w.heap.size w w' := by
  have hu39 := Try.underlying39
  have hu32 := Try.underlying32
  have hu35 := Try.underlying35
  have hu37 := Try.underlying37
  have HU := Lib.hid (fun W => user_ax a0_3 true hu W)
  clear hu
  go_enter Try.func43, Try.ntmps43
  go_upto_region 1 with (fail)
  obtain ⟨B, hB⟩ : ∃ B, RowKit.Hid (B = w.heap.size) := ⟨_, Lib.hid rfl⟩
  obtain ⟨W1, hW1⟩ : ∃ W1, w.alloc (.cells #[.int .i64 a0_0, .int .i64 a0_1, .bool true, .string a0_3, .int .i64 0, .string (⟨#[]⟩ : ByteArray), .string a0_6, .int .i64 a0_7, .int .i64 a0_8, .int .i64 (-1), .int .i64 a0_10, .int .i64 a0_11, .string a0_12, .string a0_13, .int .i64 a0_14, .bool a0_15] 39) = W1 := ⟨_, rfl⟩
  have g1 : W1.heap[B]? = some (.cells #[.int .i64 a0_0, .int .i64 a0_1, .bool true, .string a0_3, .int .i64 0, .string (⟨#[]⟩ : ByteArray), .string a0_6, .int .i64 a0_7, .int .i64 a0_8, .int .i64 (-1), .int .i64 a0_10, .int .i64 a0_11, .string a0_12, .string a0_13, .int .i64 a0_14, .bool a0_15] 39 (0, 0)) := by rw [← hW1, hB.out]; exact heap_alloc_new w _
  have b1 : Below w.heap.size w W1 := by rw [← hW1]; exact (Below.refl _ _).alloc (Nat.le_refl _) _
  rw [hW1, ← hB.out]
  clear hW1
  obtain ⟨z0, z1, z2, z3, z4, z5, z6, z7, z8, z9, z10, z11, z12, z13, z14, z15⟩ := cells16 g1
  have G1 := Lib.hid (And.intro g1 b1)
  clear g1 b1
  go_wp2_with (first
    | (go_at_call 83; ((with_reducible refine (HU.out _).mono ?_)); rintro e w' ⟨rfl, ⟨nd, rfl⟩⟩)
    | (fail))
  go_ret
  exact ⟨by first | rfl | simp, by with_reducible first | exact G1.out.2 | exact pw_below_drewN G1.out.2 _ | exact pw_below_drewN (pw_below_drewN G1.out.2 _) _ | exact G1.out.2.alloc G1.out.2.size _ | exact pw_below_drewN (G1.out.2.alloc G1.out.2.size _) _⟩
set_option maxRecDepth 100000 in
theorem may_zo7 (a0_0 : Int) (a0_1 : Int) (a0_3 : ByteArray) (a0_7 : Int) (a0_8 : Int) (a0_10 : Int) (a0_11 : Int) (a0_12 : ByteArray) (a0_13 : ByteArray) (a0_14 : Int) (a0_15 : Bool) (w : World) (p0 : decide (a0_0 < 1) = false) (p1 : decide (a0_0 > 16) = false) (p2 : decide (a0_1 < 1) = false) (p3 : decide (a0_1 > 1152921504606846976) = false) (p8 : decide (a0_8 < 0) = false) (hu : usrB a0_3 = true) (h_a0_7 : (a0_7 == 0) = false) :
    Calls Try.prog 43 #[.agg #[.int .i64 a0_0, .int .i64 a0_1, .bool true, .string a0_3, .int .i64 0, .string (⟨#[]⟩ : ByteArray), .string (⟨#[]⟩ : ByteArray), .int .i64 a0_7, .int .i64 a0_8, .int .i64 (-1), .int .i64 a0_10, .int .i64 a0_11, .string a0_12, .string a0_13, .int .i64 a0_14, .bool a0_15]] w fun e w' => e = .returned (.bool false) ∧ Below w.heap.size w w' := by
  have hu39 := Try.underlying39
  have hu32 := Try.underlying32
  have hu35 := Try.underlying35
  have hu37 := Try.underlying37
  have HU := Lib.hid (fun W => user_ax a0_3 true hu W)
  clear hu
  go_enter Try.func43, Try.ntmps43
  go_upto_region 1 with (fail)
  obtain ⟨B, hB⟩ : ∃ B, RowKit.Hid (B = w.heap.size) := ⟨_, Lib.hid rfl⟩
  obtain ⟨W1, hW1⟩ : ∃ W1, w.alloc (.cells #[.int .i64 a0_0, .int .i64 a0_1, .bool true, .string a0_3, .int .i64 0, .string (⟨#[]⟩ : ByteArray), .string (⟨#[]⟩ : ByteArray), .int .i64 a0_7, .int .i64 a0_8, .int .i64 (-1), .int .i64 a0_10, .int .i64 a0_11, .string a0_12, .string a0_13, .int .i64 a0_14, .bool a0_15] 39) = W1 := ⟨_, rfl⟩
  have g1 : W1.heap[B]? = some (.cells #[.int .i64 a0_0, .int .i64 a0_1, .bool true, .string a0_3, .int .i64 0, .string (⟨#[]⟩ : ByteArray), .string (⟨#[]⟩ : ByteArray), .int .i64 a0_7, .int .i64 a0_8, .int .i64 (-1), .int .i64 a0_10, .int .i64 a0_11, .string a0_12, .string a0_13, .int .i64 a0_14, .bool a0_15] 39 (0, 0)) := by rw [← hW1, hB.out]; exact heap_alloc_new w _
  have b1 : Below w.heap.size w W1 := by rw [← hW1]; exact (Below.refl _ _).alloc (Nat.le_refl _) _
  rw [hW1, ← hB.out]
  clear hW1
  obtain ⟨z0, z1, z2, z3, z4, z5, z6, z7, z8, z9, z10, z11, z12, z13, z14, z15⟩ := cells16 g1
  have G1 := Lib.hid (And.intro g1 b1)
  clear g1 b1
  go_wp2_with (first
    | (go_at_call 83; ((with_reducible refine (HU.out _).mono ?_)); rintro e w' ⟨rfl, ⟨nd, rfl⟩⟩)
    | (fail))
  go_ret
  exact ⟨by first | rfl | simp, by with_reducible first | exact G1.out.2 | exact pw_below_drewN G1.out.2 _ | exact pw_below_drewN (pw_below_drewN G1.out.2 _) _ | exact G1.out.2.alloc G1.out.2.size _ | exact pw_below_drewN (G1.out.2.alloc G1.out.2.size _) _⟩
set_option maxRecDepth 100000 in
theorem may_zo10 (a0_0 : Int) (a0_1 : Int) (a0_3 : ByteArray) (a0_8 : Int) (a0_10 : Int) (a0_11 : Int) (a0_12 : ByteArray) (a0_13 : ByteArray) (a0_14 : Int) (a0_15 : Bool) (w : World) (p0 : decide (a0_0 < 1) = false) (p1 : decide (a0_0 > 16) = false) (p2 : decide (a0_1 < 1) = false) (p3 : decide (a0_1 > 1152921504606846976) = false) (p8 : decide (a0_8 < 0) = false) (hu : usrB a0_3 = true) (h_a0_10 : (a0_10 == 0) = false) :
    Calls Try.prog 43 #[.agg #[.int .i64 a0_0, .int .i64 a0_1, .bool true, .string a0_3, .int .i64 0, .string (⟨#[]⟩ : ByteArray), .string (⟨#[]⟩ : ByteArray), .int .i64 0, .int .i64 a0_8, .int .i64 (-1), .int .i64 a0_10, .int .i64 a0_11, .string a0_12, .string a0_13, .int .i64 a0_14, .bool a0_15]] w fun e w' => e = .returned (.bool false) ∧ Below w.heap.size w w' := by
  have hu39 := Try.underlying39
  have hu32 := Try.underlying32
  have hu35 := Try.underlying35
  have hu37 := Try.underlying37
  have HU := Lib.hid (fun W => user_ax a0_3 true hu W)
  clear hu
  go_enter Try.func43, Try.ntmps43
  go_upto_region 1 with (fail)
  obtain ⟨B, hB⟩ : ∃ B, RowKit.Hid (B = w.heap.size) := ⟨_, Lib.hid rfl⟩
  obtain ⟨W1, hW1⟩ : ∃ W1, w.alloc (.cells #[.int .i64 a0_0, .int .i64 a0_1, .bool true, .string a0_3, .int .i64 0, .string (⟨#[]⟩ : ByteArray), .string (⟨#[]⟩ : ByteArray), .int .i64 0, .int .i64 a0_8, .int .i64 (-1), .int .i64 a0_10, .int .i64 a0_11, .string a0_12, .string a0_13, .int .i64 a0_14, .bool a0_15] 39) = W1 := ⟨_, rfl⟩
  have g1 : W1.heap[B]? = some (.cells #[.int .i64 a0_0, .int .i64 a0_1, .bool true, .string a0_3, .int .i64 0, .string (⟨#[]⟩ : ByteArray), .string (⟨#[]⟩ : ByteArray), .int .i64 0, .int .i64 a0_8, .int .i64 (-1), .int .i64 a0_10, .int .i64 a0_11, .string a0_12, .string a0_13, .int .i64 a0_14, .bool a0_15] 39 (0, 0)) := by rw [← hW1, hB.out]; exact heap_alloc_new w _
  have b1 : Below w.heap.size w W1 := by rw [← hW1]; exact (Below.refl _ _).alloc (Nat.le_refl _) _
  rw [hW1, ← hB.out]
  clear hW1
  obtain ⟨z0, z1, z2, z3, z4, z5, z6, z7, z8, z9, z10, z11, z12, z13, z14, z15⟩ := cells16 g1
  have G1 := Lib.hid (And.intro g1 b1)
  clear g1 b1
  go_wp2_with (first
    | (go_at_call 83; ((with_reducible refine (HU.out _).mono ?_)); rintro e w' ⟨rfl, ⟨nd, rfl⟩⟩)
    | (fail))
  go_ret
  exact ⟨by first | rfl | simp, by with_reducible first | exact G1.out.2 | exact pw_below_drewN G1.out.2 _ | exact pw_below_drewN (pw_below_drewN G1.out.2 _) _ | exact G1.out.2.alloc G1.out.2.size _ | exact pw_below_drewN (G1.out.2.alloc G1.out.2.size _) _⟩
set_option maxRecDepth 100000 in
theorem may_zo11 (a0_0 : Int) (a0_1 : Int) (a0_3 : ByteArray) (a0_8 : Int) (a0_11 : Int) (a0_12 : ByteArray) (a0_13 : ByteArray) (a0_14 : Int) (a0_15 : Bool) (w : World) (p0 : decide (a0_0 < 1) = false) (p1 : decide (a0_0 > 16) = false) (p2 : decide (a0_1 < 1) = false) (p3 : decide (a0_1 > 1152921504606846976) = false) (p8 : decide (a0_8 < 0) = false) (hu : usrB a0_3 = true) (h_a0_11 : (a0_11 == 0) = false) :
    Calls Try.prog 43 #[.agg #[.int .i64 a0_0, .int .i64 a0_1, .bool true, .string a0_3, .int .i64 0, .string (⟨#[]⟩ : ByteArray), .string (⟨#[]⟩ : ByteArray), .int .i64 0, .int .i64 a0_8, .int .i64 (-1), .int .i64 0, .int .i64 a0_11, .string a0_12, .string a0_13, .int .i64 a0_14, .bool a0_15]] w fun e w' => e = .returned (.bool false) ∧ Below w.heap.size w w' := by
  have hu39 := Try.underlying39
  have hu32 := Try.underlying32
  have hu35 := Try.underlying35
  have hu37 := Try.underlying37
  have HU := Lib.hid (fun W => user_ax a0_3 true hu W)
  clear hu
  go_enter Try.func43, Try.ntmps43
  go_upto_region 1 with (fail)
  obtain ⟨B, hB⟩ : ∃ B, RowKit.Hid (B = w.heap.size) := ⟨_, Lib.hid rfl⟩
  obtain ⟨W1, hW1⟩ : ∃ W1, w.alloc (.cells #[.int .i64 a0_0, .int .i64 a0_1, .bool true, .string a0_3, .int .i64 0, .string (⟨#[]⟩ : ByteArray), .string (⟨#[]⟩ : ByteArray), .int .i64 0, .int .i64 a0_8, .int .i64 (-1), .int .i64 0, .int .i64 a0_11, .string a0_12, .string a0_13, .int .i64 a0_14, .bool a0_15] 39) = W1 := ⟨_, rfl⟩
  have g1 : W1.heap[B]? = some (.cells #[.int .i64 a0_0, .int .i64 a0_1, .bool true, .string a0_3, .int .i64 0, .string (⟨#[]⟩ : ByteArray), .string (⟨#[]⟩ : ByteArray), .int .i64 0, .int .i64 a0_8, .int .i64 (-1), .int .i64 0, .int .i64 a0_11, .string a0_12, .string a0_13, .int .i64 a0_14, .bool a0_15] 39 (0, 0)) := by rw [← hW1, hB.out]; exact heap_alloc_new w _
  have b1 : Below w.heap.size w W1 := by rw [← hW1]; exact (Below.refl _ _).alloc (Nat.le_refl _) _
  rw [hW1, ← hB.out]
  clear hW1
  obtain ⟨z0, z1, z2, z3, z4, z5, z6, z7, z8, z9, z10, z11, z12, z13, z14, z15⟩ := cells16 g1
  have G1 := Lib.hid (And.intro g1 b1)
  clear g1 b1
  go_wp2_with (first
    | (go_at_call 83; ((with_reducible refine (HU.out _).mono ?_)); rintro e w' ⟨rfl, ⟨nd, rfl⟩⟩)
    | (fail))
  go_ret
  exact ⟨by first | rfl | simp, by with_reducible first | exact G1.out.2 | exact pw_below_drewN G1.out.2 _ | exact pw_below_drewN (pw_below_drewN G1.out.2 _) _ | exact G1.out.2.alloc G1.out.2.size _ | exact pw_below_drewN (G1.out.2.alloc G1.out.2.size _) _⟩
set_option maxRecDepth 100000 in
theorem may_zg (a0_0 : Int) (a0_1 : Int) (a0_3 : ByteArray) (a0_8 : Int) (a0_12 : ByteArray) (a0_13 : ByteArray) (a0_14 : Int) (w : World) (p0 : decide (a0_0 < 1) = false) (p1 : decide (a0_0 > 16) = false) (p2 : decide (a0_1 < 1) = false) (p3 : decide (a0_1 > 1152921504606846976) = false) (p8 : decide (a0_8 < 0) = false) (hu : usrB a0_3 = true) :
    Calls Try.prog 43 #[.agg #[.int .i64 a0_0, .int .i64 a0_1, .bool true, .string a0_3, .int .i64 0, .string (⟨#[]⟩ : ByteArray), .string (⟨#[]⟩ : ByteArray), .int .i64 0, .int .i64 a0_8, .int .i64 (-1), .int .i64 0, .int .i64 0, .string a0_12, .string a0_13, .int .i64 a0_14, .bool true]] w fun e w' => e = .returned (.bool false) ∧ Below w.heap.size w w' := by
  have hu39 := Try.underlying39
  have hu32 := Try.underlying32
  have hu35 := Try.underlying35
  have hu37 := Try.underlying37
  have HU := Lib.hid (fun W => user_ax a0_3 true hu W)
  clear hu
  have HA := Lib.hid (fun W => ranswered_any (a0_0) (a0_1) (true) (a0_3) (0) ((⟨#[]⟩ : ByteArray)) ((⟨#[]⟩ : ByteArray)) (0) (a0_8) ((-1)) (0) (0) (a0_12) (a0_13) (a0_14) (true) false (by decide) W)
  go_enter Try.func43, Try.ntmps43
  go_upto_region 1 with (fail)
  obtain ⟨B, hB⟩ : ∃ B, RowKit.Hid (B = w.heap.size) := ⟨_, Lib.hid rfl⟩
  obtain ⟨W1, hW1⟩ : ∃ W1, w.alloc (.cells #[.int .i64 a0_0, .int .i64 a0_1, .bool true, .string a0_3, .int .i64 0, .string (⟨#[]⟩ : ByteArray), .string (⟨#[]⟩ : ByteArray), .int .i64 0, .int .i64 a0_8, .int .i64 (-1), .int .i64 0, .int .i64 0, .string a0_12, .string a0_13, .int .i64 a0_14, .bool true] 39) = W1 := ⟨_, rfl⟩
  have g1 : W1.heap[B]? = some (.cells #[.int .i64 a0_0, .int .i64 a0_1, .bool true, .string a0_3, .int .i64 0, .string (⟨#[]⟩ : ByteArray), .string (⟨#[]⟩ : ByteArray), .int .i64 0, .int .i64 a0_8, .int .i64 (-1), .int .i64 0, .int .i64 0, .string a0_12, .string a0_13, .int .i64 a0_14, .bool true] 39 (0, 0)) := by rw [← hW1, hB.out]; exact heap_alloc_new w _
  have b1 : Below w.heap.size w W1 := by rw [← hW1]; exact (Below.refl _ _).alloc (Nat.le_refl _) _
  rw [hW1, ← hB.out]
  clear hW1
  obtain ⟨z0, z1, z2, z3, z4, z5, z6, z7, z8, z9, z10, z11, z12, z13, z14, z15⟩ := cells16 g1
  have G1 := Lib.hid (And.intro g1 b1)
  clear g1 b1
  go_wp2_with (first
    | (go_at_call 44; refine (HA.out _).mono ?_; rintro e w2 ⟨rfl, hb1⟩; have g2 := blk_below (by first | exact G1.out.1 | exact blk_drewN G1.out.1 _) hb1; have b2 : Below w.heap.size w w2 := (by first | exact G1.out.2 | exact pw_below_drewN G1.out.2 _ : Below w.heap.size w _).trans (hb1.mono (by first | exact G1.out.2.size | exact (pw_below_drewN G1.out.2 _).size)); have hz2 : B < w2.heap.size := blk_lt g2; obtain ⟨y0, y1, y2, y3, y4, y5, y6, y7, y8, y9, y10, y11, y12, y13, y14, y15⟩ := cells16 g2; clear z0 z1 z2 z3 z4 z5 z6 z7 z8 z9 z10 z11 z12 z13 z14 z15; have G2 := Lib.hid (And.intro g2 b2); clear g2 b2 hb1)
    | ((with_reducible refine gate_dst (N := 64) rfl ?_); (try (refine gate_guard (by rfl) ?_; dsimp only)); refine wpList_load_row rfl 39 (.tmp 1) rfl B rfl 39 #[.int .i64 a0_0, .int .i64 a0_1, .bool true, .string a0_3, .int .i64 0, .string (⟨#[]⟩ : ByteArray), .string (⟨#[]⟩ : ByteArray), .int .i64 0, .int .i64 a0_8, .int .i64 (-1), .int .i64 0, .int .i64 0, .string a0_12, .string a0_13, .int .i64 a0_14, .bool true] (0, 0) _ (by first | exact G5.out.1 | exact blk_drewN G5.out.1 _ | exact G4.out.1 | exact blk_drewN G4.out.1 _ | exact G3.out.1 | exact blk_drewN G3.out.1 _ | exact G2.out.1 | exact blk_drewN G2.out.1 _ | exact G1.out.1 | exact blk_drewN G1.out.1 _) Try.underlying39 rfl (by kernel_rfl) ?_)
    | ((with_reducible refine gate_dst (N := 96) rfl ?_); (try (refine gate_guard (by rfl) ?_; dsimp only)); refine wpList_load_row rfl 39 (.tmp 1) rfl B rfl 39 #[.int .i64 a0_0, .int .i64 a0_1, .bool true, .string a0_3, .int .i64 0, .string (⟨#[]⟩ : ByteArray), .string (⟨#[]⟩ : ByteArray), .int .i64 0, .int .i64 a0_8, .int .i64 (-1), .int .i64 0, .int .i64 0, .string a0_12, .string a0_13, .int .i64 a0_14, .bool true] (0, 0) _ (by first | exact G5.out.1 | exact blk_drewN G5.out.1 _ | exact G4.out.1 | exact blk_drewN G4.out.1 _ | exact G3.out.1 | exact blk_drewN G3.out.1 _ | exact G2.out.1 | exact blk_drewN G2.out.1 _ | exact G1.out.1 | exact blk_drewN G1.out.1 _) Try.underlying39 rfl (by kernel_rfl) ?_)
    | (go_at_call 83; ((with_reducible refine (HU.out _).mono ?_)); rintro e w' ⟨rfl, ⟨nd, rfl⟩⟩)
    | (fail))
  go_ret
  exact ⟨by first | rfl | simp, by with_reducible first | exact G2.out.2 | exact pw_below_drewN G2.out.2 _ | exact pw_below_drewN (pw_below_drewN G2.out.2 _) _ | exact G2.out.2.alloc G2.out.2.size _ | exact pw_below_drewN (G2.out.2.alloc G2.out.2.size _) _⟩
set_option maxRecDepth 100000 in
theorem may_zv12 (a0_0 : Int) (a0_1 : Int) (a0_3 : ByteArray) (a0_8 : Int) (a0_12 : ByteArray) (a0_13 : ByteArray) (a0_14 : Int) (w : World) (p0 : decide (a0_0 < 1) = false) (p1 : decide (a0_0 > 16) = false) (p2 : decide (a0_1 < 1) = false) (p3 : decide (a0_1 > 1152921504606846976) = false) (p8 : decide (a0_8 < 0) = false) (hu : usrB a0_3 = true) (h_a0_12 : a0_12.toList.isEmpty = false) :
    Calls Try.prog 43 #[.agg #[.int .i64 a0_0, .int .i64 a0_1, .bool true, .string a0_3, .int .i64 0, .string (⟨#[]⟩ : ByteArray), .string (⟨#[]⟩ : ByteArray), .int .i64 0, .int .i64 a0_8, .int .i64 (-1), .int .i64 0, .int .i64 0, .string a0_12, .string a0_13, .int .i64 a0_14, .bool false]] w fun e w' => e = .returned (.bool false) ∧ Below w.heap.size w w' := by
  have hu39 := Try.underlying39
  have hu32 := Try.underlying32
  have hu35 := Try.underlying35
  have hu37 := Try.underlying37
  have HU := Lib.hid (fun W => user_ax a0_3 true hu W)
  clear hu
  go_enter Try.func43, Try.ntmps43
  go_upto_region 1 with (fail)
  obtain ⟨B, hB⟩ : ∃ B, RowKit.Hid (B = w.heap.size) := ⟨_, Lib.hid rfl⟩
  obtain ⟨W1, hW1⟩ : ∃ W1, w.alloc (.cells #[.int .i64 a0_0, .int .i64 a0_1, .bool true, .string a0_3, .int .i64 0, .string (⟨#[]⟩ : ByteArray), .string (⟨#[]⟩ : ByteArray), .int .i64 0, .int .i64 a0_8, .int .i64 (-1), .int .i64 0, .int .i64 0, .string a0_12, .string a0_13, .int .i64 a0_14, .bool false] 39) = W1 := ⟨_, rfl⟩
  have g1 : W1.heap[B]? = some (.cells #[.int .i64 a0_0, .int .i64 a0_1, .bool true, .string a0_3, .int .i64 0, .string (⟨#[]⟩ : ByteArray), .string (⟨#[]⟩ : ByteArray), .int .i64 0, .int .i64 a0_8, .int .i64 (-1), .int .i64 0, .int .i64 0, .string a0_12, .string a0_13, .int .i64 a0_14, .bool false] 39 (0, 0)) := by rw [← hW1, hB.out]; exact heap_alloc_new w _
  have b1 : Below w.heap.size w W1 := by rw [← hW1]; exact (Below.refl _ _).alloc (Nat.le_refl _) _
  rw [hW1, ← hB.out]
  clear hW1
  obtain ⟨z0, z1, z2, z3, z4, z5, z6, z7, z8, z9, z10, z11, z12, z13, z14, z15⟩ := cells16 g1
  have G1 := Lib.hid (And.intro g1 b1)
  clear g1 b1
  go_wp2_with (first
    | (go_at_call 83; ((with_reducible refine (HU.out _).mono ?_)); rintro e w' ⟨rfl, ⟨nd, rfl⟩⟩)
    | (fail))
  go_ret
  exact ⟨by first | rfl | simp, by with_reducible first | exact G1.out.2 | exact pw_below_drewN G1.out.2 _ | exact pw_below_drewN (pw_below_drewN G1.out.2 _) _ | exact G1.out.2.alloc G1.out.2.size _ | exact pw_below_drewN (G1.out.2.alloc G1.out.2.size _) _⟩
set_option maxRecDepth 100000 in
theorem may_zv13 (a0_0 : Int) (a0_1 : Int) (a0_3 : ByteArray) (a0_8 : Int) (a0_13 : ByteArray) (a0_14 : Int) (w : World) (p0 : decide (a0_0 < 1) = false) (p1 : decide (a0_0 > 16) = false) (p2 : decide (a0_1 < 1) = false) (p3 : decide (a0_1 > 1152921504606846976) = false) (p8 : decide (a0_8 < 0) = false) (hu : usrB a0_3 = true) (h_a0_13 : a0_13.toList.isEmpty = false) :
    Calls Try.prog 43 #[.agg #[.int .i64 a0_0, .int .i64 a0_1, .bool true, .string a0_3, .int .i64 0, .string (⟨#[]⟩ : ByteArray), .string (⟨#[]⟩ : ByteArray), .int .i64 0, .int .i64 a0_8, .int .i64 (-1), .int .i64 0, .int .i64 0, .string (⟨#[]⟩ : ByteArray), .string a0_13, .int .i64 a0_14, .bool false]] w fun e w' => e = .returned (.bool false) ∧ Below w.heap.size w w' := by
  have hu39 := Try.underlying39
  have hu32 := Try.underlying32
  have hu35 := Try.underlying35
  have hu37 := Try.underlying37
  have HU := Lib.hid (fun W => user_ax a0_3 true hu W)
  clear hu
  go_enter Try.func43, Try.ntmps43
  go_upto_region 1 with (fail)
  obtain ⟨B, hB⟩ : ∃ B, RowKit.Hid (B = w.heap.size) := ⟨_, Lib.hid rfl⟩
  obtain ⟨W1, hW1⟩ : ∃ W1, w.alloc (.cells #[.int .i64 a0_0, .int .i64 a0_1, .bool true, .string a0_3, .int .i64 0, .string (⟨#[]⟩ : ByteArray), .string (⟨#[]⟩ : ByteArray), .int .i64 0, .int .i64 a0_8, .int .i64 (-1), .int .i64 0, .int .i64 0, .string (⟨#[]⟩ : ByteArray), .string a0_13, .int .i64 a0_14, .bool false] 39) = W1 := ⟨_, rfl⟩
  have g1 : W1.heap[B]? = some (.cells #[.int .i64 a0_0, .int .i64 a0_1, .bool true, .string a0_3, .int .i64 0, .string (⟨#[]⟩ : ByteArray), .string (⟨#[]⟩ : ByteArray), .int .i64 0, .int .i64 a0_8, .int .i64 (-1), .int .i64 0, .int .i64 0, .string (⟨#[]⟩ : ByteArray), .string a0_13, .int .i64 a0_14, .bool false] 39 (0, 0)) := by rw [← hW1, hB.out]; exact heap_alloc_new w _
  have b1 : Below w.heap.size w W1 := by rw [← hW1]; exact (Below.refl _ _).alloc (Nat.le_refl _) _
  rw [hW1, ← hB.out]
  clear hW1
  obtain ⟨z0, z1, z2, z3, z4, z5, z6, z7, z8, z9, z10, z11, z12, z13, z14, z15⟩ := cells16 g1
  have G1 := Lib.hid (And.intro g1 b1)
  clear g1 b1
  go_wp2_with (first
    | (go_at_call 83; ((with_reducible refine (HU.out _).mono ?_)); rintro e w' ⟨rfl, ⟨nd, rfl⟩⟩)
    | (fail))
  go_ret
  exact ⟨by first | rfl | simp, by with_reducible first | exact G1.out.2 | exact pw_below_drewN G1.out.2 _ | exact pw_below_drewN (pw_below_drewN G1.out.2 _) _ | exact G1.out.2.alloc G1.out.2.size _ | exact pw_below_drewN (G1.out.2.alloc G1.out.2.size _) _⟩
set_option maxRecDepth 100000 in
theorem may_zv14 (a0_0 : Int) (a0_1 : Int) (a0_3 : ByteArray) (a0_8 : Int) (a0_14 : Int) (w : World) (p0 : decide (a0_0 < 1) = false) (p1 : decide (a0_0 > 16) = false) (p2 : decide (a0_1 < 1) = false) (p3 : decide (a0_1 > 1152921504606846976) = false) (p8 : decide (a0_8 < 0) = false) (hu : usrB a0_3 = true) (h_a0_14 : (a0_14 == 0) = false) :
    Calls Try.prog 43 #[.agg #[.int .i64 a0_0, .int .i64 a0_1, .bool true, .string a0_3, .int .i64 0, .string (⟨#[]⟩ : ByteArray), .string (⟨#[]⟩ : ByteArray), .int .i64 0, .int .i64 a0_8, .int .i64 (-1), .int .i64 0, .int .i64 0, .string (⟨#[]⟩ : ByteArray), .string (⟨#[]⟩ : ByteArray), .int .i64 a0_14, .bool false]] w fun e w' => e = .returned (.bool false) ∧ Below w.heap.size w w' := by
  have hu39 := Try.underlying39
  have hu32 := Try.underlying32
  have hu35 := Try.underlying35
  have hu37 := Try.underlying37
  have HU := Lib.hid (fun W => user_ax a0_3 true hu W)
  clear hu
  go_enter Try.func43, Try.ntmps43
  go_upto_region 1 with (fail)
  obtain ⟨B, hB⟩ : ∃ B, RowKit.Hid (B = w.heap.size) := ⟨_, Lib.hid rfl⟩
  obtain ⟨W1, hW1⟩ : ∃ W1, w.alloc (.cells #[.int .i64 a0_0, .int .i64 a0_1, .bool true, .string a0_3, .int .i64 0, .string (⟨#[]⟩ : ByteArray), .string (⟨#[]⟩ : ByteArray), .int .i64 0, .int .i64 a0_8, .int .i64 (-1), .int .i64 0, .int .i64 0, .string (⟨#[]⟩ : ByteArray), .string (⟨#[]⟩ : ByteArray), .int .i64 a0_14, .bool false] 39) = W1 := ⟨_, rfl⟩
  have g1 : W1.heap[B]? = some (.cells #[.int .i64 a0_0, .int .i64 a0_1, .bool true, .string a0_3, .int .i64 0, .string (⟨#[]⟩ : ByteArray), .string (⟨#[]⟩ : ByteArray), .int .i64 0, .int .i64 a0_8, .int .i64 (-1), .int .i64 0, .int .i64 0, .string (⟨#[]⟩ : ByteArray), .string (⟨#[]⟩ : ByteArray), .int .i64 a0_14, .bool false] 39 (0, 0)) := by rw [← hW1, hB.out]; exact heap_alloc_new w _
  have b1 : Below w.heap.size w W1 := by rw [← hW1]; exact (Below.refl _ _).alloc (Nat.le_refl _) _
  rw [hW1, ← hB.out]
  clear hW1
  obtain ⟨z0, z1, z2, z3, z4, z5, z6, z7, z8, z9, z10, z11, z12, z13, z14, z15⟩ := cells16 g1
  have G1 := Lib.hid (And.intro g1 b1)
  clear g1 b1
  go_wp2_with (first
    | (go_at_call 83; ((with_reducible refine (HU.out _).mono ?_)); rintro e w' ⟨rfl, ⟨nd, rfl⟩⟩)
    | (fail))
  go_ret
  exact ⟨by first | rfl | simp, by with_reducible first | exact G1.out.2 | exact pw_below_drewN G1.out.2 _ | exact pw_below_drewN (pw_below_drewN G1.out.2 _) _ | exact G1.out.2.alloc G1.out.2.size _ | exact pw_below_drewN (G1.out.2.alloc G1.out.2.size _) _⟩
set_option maxRecDepth 100000 in
theorem may_zvz (a0_0 : Int) (a0_1 : Int) (a0_3 : ByteArray) (a0_8 : Int) (w : World) (p0 : decide (a0_0 < 1) = false) (p1 : decide (a0_0 > 16) = false) (p2 : decide (a0_1 < 1) = false) (p3 : decide (a0_1 > 1152921504606846976) = false) (p8 : decide (a0_8 < 0) = false) (hu : usrB a0_3 = true) :
    Calls Try.prog 43 #[.agg #[.int .i64 a0_0, .int .i64 a0_1, .bool true, .string a0_3, .int .i64 0, .string (⟨#[]⟩ : ByteArray), .string (⟨#[]⟩ : ByteArray), .int .i64 0, .int .i64 a0_8, .int .i64 (-1), .int .i64 0, .int .i64 0, .string (⟨#[]⟩ : ByteArray), .string (⟨#[]⟩ : ByteArray), .int .i64 0, .bool false]] w fun e w' => e = .returned (.bool true) ∧ Below w.heap.size w w' := by
  have hu39 := Try.underlying39
  have hu32 := Try.underlying32
  have hu35 := Try.underlying35
  have hu37 := Try.underlying37
  have HU := Lib.hid (fun W => user_ax a0_3 true hu W)
  clear hu
  go_enter Try.func43, Try.ntmps43
  go_upto_region 1 with (fail)
  obtain ⟨B, hB⟩ : ∃ B, RowKit.Hid (B = w.heap.size) := ⟨_, Lib.hid rfl⟩
  obtain ⟨W1, hW1⟩ : ∃ W1, w.alloc (.cells #[.int .i64 a0_0, .int .i64 a0_1, .bool true, .string a0_3, .int .i64 0, .string (⟨#[]⟩ : ByteArray), .string (⟨#[]⟩ : ByteArray), .int .i64 0, .int .i64 a0_8, .int .i64 (-1), .int .i64 0, .int .i64 0, .string (⟨#[]⟩ : ByteArray), .string (⟨#[]⟩ : ByteArray), .int .i64 0, .bool false] 39) = W1 := ⟨_, rfl⟩
  have g1 : W1.heap[B]? = some (.cells #[.int .i64 a0_0, .int .i64 a0_1, .bool true, .string a0_3, .int .i64 0, .string (⟨#[]⟩ : ByteArray), .string (⟨#[]⟩ : ByteArray), .int .i64 0, .int .i64 a0_8, .int .i64 (-1), .int .i64 0, .int .i64 0, .string (⟨#[]⟩ : ByteArray), .string (⟨#[]⟩ : ByteArray), .int .i64 0, .bool false] 39 (0, 0)) := by rw [← hW1, hB.out]; exact heap_alloc_new w _
  have b1 : Below w.heap.size w W1 := by rw [← hW1]; exact (Below.refl _ _).alloc (Nat.le_refl _) _
  rw [hW1, ← hB.out]
  clear hW1
  obtain ⟨z0, z1, z2, z3, z4, z5, z6, z7, z8, z9, z10, z11, z12, z13, z14, z15⟩ := cells16 g1
  have G1 := Lib.hid (And.intro g1 b1)
  clear g1 b1
  go_wp2_with (first
    | (go_at_call 83; ((with_reducible refine (HU.out _).mono ?_)); rintro e w' ⟨rfl, ⟨nd, rfl⟩⟩)
    | (fail))
  go_ret
  exact ⟨by first | rfl | simp, by with_reducible first | exact G1.out.2 | exact pw_below_drewN G1.out.2 _ | exact pw_below_drewN (pw_below_drewN G1.out.2 _) _ | exact G1.out.2.alloc G1.out.2.size _ | exact pw_below_drewN (G1.out.2.alloc G1.out.2.size _) _⟩
set_option maxRecDepth 100000 in
theorem may_ed (a0_0 : Int) (a0_1 : Int) (a0_3 : ByteArray) (a0_4 : Int) (a0_5 : ByteArray) (a0_6 : ByteArray) (a0_7 : Int) (a0_8 : Int) (a0_9 : Int) (a0_10 : Int) (a0_11 : Int) (a0_12 : ByteArray) (a0_13 : ByteArray) (a0_14 : Int) (a0_15 : Bool) (w : World) (p0 : decide (a0_0 < 1) = false) (p1 : decide (a0_0 > 16) = false) (p2 : decide (a0_1 < 1) = false) (p3 : decide (a0_1 > 1152921504606846976) = false) (p8 : decide (a0_8 < 0) = false) (h9 : (a0_9 != -1) = true) (hl : decide (a0_9 ≤ a0_8) = false) (r : Int) (hd : ∀ W, Calls Try.prog 80 #[.agg #[.int .i64 a0_4, .string a0_5, .string a0_6, .int .i64 a0_7]] W fun e w' => e = .returned (.int .i64 r) ∧ Below W.heap.size W w') (hr : (r != 0) = true) :
    Calls Try.prog 43 #[.agg #[.int .i64 a0_0, .int .i64 a0_1, .bool false, .string a0_3, .int .i64 a0_4, .string a0_5, .string a0_6, .int .i64 a0_7, .int .i64 a0_8, .int .i64 a0_9, .int .i64 a0_10, .int .i64 a0_11, .string a0_12, .string a0_13, .int .i64 a0_14, .bool a0_15]] w fun e w' => e = .returned (.bool false) ∧ Below w.heap.size w w' := by
  have hu39 := Try.underlying39
  have hu32 := Try.underlying32
  have hu35 := Try.underlying35
  have hu37 := Try.underlying37
  have HP := Lib.hid (fun W => plainOp_ax a0_4 a0_5 a0_6 a0_7 W)
  have HD := Lib.hid hd
  clear hd
  go_enter Try.func43, Try.ntmps43
  go_upto_region 1 with (fail)
  obtain ⟨B, hB⟩ : ∃ B, RowKit.Hid (B = w.heap.size) := ⟨_, Lib.hid rfl⟩
  obtain ⟨W1, hW1⟩ : ∃ W1, w.alloc (.cells #[.int .i64 a0_0, .int .i64 a0_1, .bool false, .string a0_3, .int .i64 a0_4, .string a0_5, .string a0_6, .int .i64 a0_7, .int .i64 a0_8, .int .i64 a0_9, .int .i64 a0_10, .int .i64 a0_11, .string a0_12, .string a0_13, .int .i64 a0_14, .bool a0_15] 39) = W1 := ⟨_, rfl⟩
  have g1 : W1.heap[B]? = some (.cells #[.int .i64 a0_0, .int .i64 a0_1, .bool false, .string a0_3, .int .i64 a0_4, .string a0_5, .string a0_6, .int .i64 a0_7, .int .i64 a0_8, .int .i64 a0_9, .int .i64 a0_10, .int .i64 a0_11, .string a0_12, .string a0_13, .int .i64 a0_14, .bool a0_15] 39 (0, 0)) := by rw [← hW1, hB.out]; exact heap_alloc_new w _
  have b1 : Below w.heap.size w W1 := by rw [← hW1]; exact (Below.refl _ _).alloc (Nat.le_refl _) _
  rw [hW1, ← hB.out]
  clear hW1
  obtain ⟨z0, z1, z2, z3, z4, z5, z6, z7, z8, z9, z10, z11, z12, z13, z14, z15⟩ := cells16 g1
  have G1 := Lib.hid (And.intro g1 b1)
  clear g1 b1
  go_wp2_with (first
    | (go_at_call 81; refine (HP.out _).mono ?_; rintro e w2 ⟨rfl, hb1⟩; have g2 := blk_below (by first | exact G1.out.1 | exact blk_drewN G1.out.1 _) hb1; have b2 : Below w.heap.size w w2 := (by first | exact G1.out.2 | exact pw_below_drewN G1.out.2 _ : Below w.heap.size w _).trans (hb1.mono (by first | exact G1.out.2.size | exact (pw_below_drewN G1.out.2 _).size)); have hz2 : B < w2.heap.size := blk_lt g2; obtain ⟨y0, y1, y2, y3, y4, y5, y6, y7, y8, y9, y10, y11, y12, y13, y14, y15⟩ := cells16 g2; clear z0 z1 z2 z3 z4 z5 z6 z7 z8 z9 z10 z11 z12 z13 z14 z15; have G2 := Lib.hid (And.intro g2 b2); clear g2 b2 hb1)
    | (go_at_call 80; refine (HD.out _).mono ?_; rintro e w3 ⟨rfl, hb2⟩; have g3 := blk_below (by first | exact G2.out.1 | exact blk_drewN G2.out.1 _) hb2; have b3 : Below w.heap.size w w3 := (by first | exact G2.out.2 | exact pw_below_drewN G2.out.2 _ : Below w.heap.size w _).trans (hb2.mono (by first | exact G2.out.2.size | exact (pw_below_drewN G2.out.2 _).size)); have hz3 : B < w3.heap.size := blk_lt g3; obtain ⟨v0, v1, v2, v3, v4, v5, v6, v7, v8, v9, v10, v11, v12, v13, v14, v15⟩ := cells16 g3; clear y0 y1 y2 y3 y4 y5 y6 y7 y8 y9 y10 y11 y12 y13 y14 y15 hz2; have G3 := Lib.hid (And.intro g3 b3); clear g3 b3 hb2)
    | ((with_reducible refine gate_dst (N := 64) rfl ?_); (try (refine gate_guard (by rfl) ?_; dsimp only)); refine wpList_load_row rfl 39 (.tmp 1) rfl B rfl 39 #[.int .i64 a0_0, .int .i64 a0_1, .bool false, .string a0_3, .int .i64 a0_4, .string a0_5, .string a0_6, .int .i64 a0_7, .int .i64 a0_8, .int .i64 a0_9, .int .i64 a0_10, .int .i64 a0_11, .string a0_12, .string a0_13, .int .i64 a0_14, .bool a0_15] (0, 0) _ (by first | exact G5.out.1 | exact blk_drewN G5.out.1 _ | exact G4.out.1 | exact blk_drewN G4.out.1 _ | exact G3.out.1 | exact blk_drewN G3.out.1 _ | exact G2.out.1 | exact blk_drewN G2.out.1 _ | exact G1.out.1 | exact blk_drewN G1.out.1 _) Try.underlying39 rfl (by kernel_rfl) ?_)
    | ((with_reducible refine gate_dst (N := 96) rfl ?_); (try (refine gate_guard (by rfl) ?_; dsimp only)); refine wpList_load_row rfl 39 (.tmp 1) rfl B rfl 39 #[.int .i64 a0_0, .int .i64 a0_1, .bool false, .string a0_3, .int .i64 a0_4, .string a0_5, .string a0_6, .int .i64 a0_7, .int .i64 a0_8, .int .i64 a0_9, .int .i64 a0_10, .int .i64 a0_11, .string a0_12, .string a0_13, .int .i64 a0_14, .bool a0_15] (0, 0) _ (by first | exact G5.out.1 | exact blk_drewN G5.out.1 _ | exact G4.out.1 | exact blk_drewN G4.out.1 _ | exact G3.out.1 | exact blk_drewN G3.out.1 _ | exact G2.out.1 | exact blk_drewN G2.out.1 _ | exact G1.out.1 | exact blk_drewN G1.out.1 _) Try.underlying39 rfl (by kernel_rfl) ?_)
    | (fail))
  go_ret
  exact ⟨by first | rfl | simp, by with_reducible first | exact G3.out.2 | exact pw_below_drewN G3.out.2 _ | exact pw_below_drewN (pw_below_drewN G3.out.2 _) _ | exact G3.out.2.alloc G3.out.2.size _ | exact pw_below_drewN (G3.out.2.alloc G3.out.2.size _) _⟩
set_option maxRecDepth 100000 in
theorem may_ek (a0_0 : Int) (a0_1 : Int) (a0_3 : ByteArray) (a0_4 : Int) (a0_5 : ByteArray) (a0_6 : ByteArray) (a0_7 : Int) (a0_8 : Int) (a0_9 : Int) (a0_10 : Int) (a0_11 : Int) (a0_12 : ByteArray) (a0_13 : ByteArray) (a0_14 : Int) (a0_15 : Bool) (w : World) (p0 : decide (a0_0 < 1) = false) (p1 : decide (a0_0 > 16) = false) (p2 : decide (a0_1 < 1) = false) (p3 : decide (a0_1 > 1152921504606846976) = false) (p8 : decide (a0_8 < 0) = false) (h9 : (a0_9 != -1) = true) (hl : decide (a0_9 ≤ a0_8) = false) (hd : ∀ W, Calls Try.prog 80 #[.agg #[.int .i64 a0_4, .string a0_5, .string a0_6, .int .i64 a0_7]] W fun e w' => e = .returned (.int .i64 0) ∧ Below W.heap.size W w') (hk : (a0_3.toList == a0_5.toList) = false) :
    Calls Try.prog 43 #[.agg #[.int .i64 a0_0, .int .i64 a0_1, .bool false, .string a0_3, .int .i64 a0_4, .string a0_5, .string a0_6, .int .i64 a0_7, .int .i64 a0_8, .int .i64 a0_9, .int .i64 a0_10, .int .i64 a0_11, .string a0_12, .string a0_13, .int .i64 a0_14, .bool a0_15]] w fun e w' => e = .returned (.bool false) ∧ Below w.heap.size w w' := by
  have hu39 := Try.underlying39
  have hu32 := Try.underlying32
  have hu35 := Try.underlying35
  have hu37 := Try.underlying37
  have HP := Lib.hid (fun W => plainOp_ax a0_4 a0_5 a0_6 a0_7 W)
  have HD := Lib.hid hd
  clear hd
  go_enter Try.func43, Try.ntmps43
  go_upto_region 1 with (fail)
  obtain ⟨B, hB⟩ : ∃ B, RowKit.Hid (B = w.heap.size) := ⟨_, Lib.hid rfl⟩
  obtain ⟨W1, hW1⟩ : ∃ W1, w.alloc (.cells #[.int .i64 a0_0, .int .i64 a0_1, .bool false, .string a0_3, .int .i64 a0_4, .string a0_5, .string a0_6, .int .i64 a0_7, .int .i64 a0_8, .int .i64 a0_9, .int .i64 a0_10, .int .i64 a0_11, .string a0_12, .string a0_13, .int .i64 a0_14, .bool a0_15] 39) = W1 := ⟨_, rfl⟩
  have g1 : W1.heap[B]? = some (.cells #[.int .i64 a0_0, .int .i64 a0_1, .bool false, .string a0_3, .int .i64 a0_4, .string a0_5, .string a0_6, .int .i64 a0_7, .int .i64 a0_8, .int .i64 a0_9, .int .i64 a0_10, .int .i64 a0_11, .string a0_12, .string a0_13, .int .i64 a0_14, .bool a0_15] 39 (0, 0)) := by rw [← hW1, hB.out]; exact heap_alloc_new w _
  have b1 : Below w.heap.size w W1 := by rw [← hW1]; exact (Below.refl _ _).alloc (Nat.le_refl _) _
  rw [hW1, ← hB.out]
  clear hW1
  obtain ⟨z0, z1, z2, z3, z4, z5, z6, z7, z8, z9, z10, z11, z12, z13, z14, z15⟩ := cells16 g1
  have G1 := Lib.hid (And.intro g1 b1)
  clear g1 b1
  go_wp2_with (first
    | (go_at_call 81; refine (HP.out _).mono ?_; rintro e w2 ⟨rfl, hb1⟩; have g2 := blk_below (by first | exact G1.out.1 | exact blk_drewN G1.out.1 _) hb1; have b2 : Below w.heap.size w w2 := (by first | exact G1.out.2 | exact pw_below_drewN G1.out.2 _ : Below w.heap.size w _).trans (hb1.mono (by first | exact G1.out.2.size | exact (pw_below_drewN G1.out.2 _).size)); have hz2 : B < w2.heap.size := blk_lt g2; obtain ⟨y0, y1, y2, y3, y4, y5, y6, y7, y8, y9, y10, y11, y12, y13, y14, y15⟩ := cells16 g2; clear z0 z1 z2 z3 z4 z5 z6 z7 z8 z9 z10 z11 z12 z13 z14 z15; have G2 := Lib.hid (And.intro g2 b2); clear g2 b2 hb1)
    | (go_at_call 80; refine (HD.out _).mono ?_; rintro e w3 ⟨rfl, hb2⟩; have g3 := blk_below (by first | exact G2.out.1 | exact blk_drewN G2.out.1 _) hb2; have b3 : Below w.heap.size w w3 := (by first | exact G2.out.2 | exact pw_below_drewN G2.out.2 _ : Below w.heap.size w _).trans (hb2.mono (by first | exact G2.out.2.size | exact (pw_below_drewN G2.out.2 _).size)); have hz3 : B < w3.heap.size := blk_lt g3; obtain ⟨v0, v1, v2, v3, v4, v5, v6, v7, v8, v9, v10, v11, v12, v13, v14, v15⟩ := cells16 g3; clear y0 y1 y2 y3 y4 y5 y6 y7 y8 y9 y10 y11 y12 y13 y14 y15 hz2; have G3 := Lib.hid (And.intro g3 b3); clear g3 b3 hb2)
    | ((with_reducible refine gate_dst (N := 64) rfl ?_); (try (refine gate_guard (by rfl) ?_; dsimp only)); refine wpList_load_row rfl 39 (.tmp 1) rfl B rfl 39 #[.int .i64 a0_0, .int .i64 a0_1, .bool false, .string a0_3, .int .i64 a0_4, .string a0_5, .string a0_6, .int .i64 a0_7, .int .i64 a0_8, .int .i64 a0_9, .int .i64 a0_10, .int .i64 a0_11, .string a0_12, .string a0_13, .int .i64 a0_14, .bool a0_15] (0, 0) _ (by first | exact G5.out.1 | exact blk_drewN G5.out.1 _ | exact G4.out.1 | exact blk_drewN G4.out.1 _ | exact G3.out.1 | exact blk_drewN G3.out.1 _ | exact G2.out.1 | exact blk_drewN G2.out.1 _ | exact G1.out.1 | exact blk_drewN G1.out.1 _) Try.underlying39 rfl (by kernel_rfl) ?_)
    | ((with_reducible refine gate_dst (N := 96) rfl ?_); (try (refine gate_guard (by rfl) ?_; dsimp only)); refine wpList_load_row rfl 39 (.tmp 1) rfl B rfl 39 #[.int .i64 a0_0, .int .i64 a0_1, .bool false, .string a0_3, .int .i64 a0_4, .string a0_5, .string a0_6, .int .i64 a0_7, .int .i64 a0_8, .int .i64 a0_9, .int .i64 a0_10, .int .i64 a0_11, .string a0_12, .string a0_13, .int .i64 a0_14, .bool a0_15] (0, 0) _ (by first | exact G5.out.1 | exact blk_drewN G5.out.1 _ | exact G4.out.1 | exact blk_drewN G4.out.1 _ | exact G3.out.1 | exact blk_drewN G3.out.1 _ | exact G2.out.1 | exact blk_drewN G2.out.1 _ | exact G1.out.1 | exact blk_drewN G1.out.1 _) Try.underlying39 rfl (by kernel_rfl) ?_)
    | (fail))
  go_ret
  exact ⟨by first | rfl | simp, by with_reducible first | exact G3.out.2 | exact pw_below_drewN G3.out.2 _ | exact pw_below_drewN (pw_below_drewN G3.out.2 _) _ | exact G3.out.2.alloc G3.out.2.size _ | exact pw_below_drewN (G3.out.2.alloc G3.out.2.size _) _⟩
set_option maxRecDepth 100000 in
theorem may_ef (a0_0 : Int) (a0_1 : Int) (a0_3 : ByteArray) (a0_4 : Int) (a0_5 : ByteArray) (a0_6 : ByteArray) (a0_7 : Int) (a0_8 : Int) (a0_9 : Int) (a0_10 : Int) (a0_11 : Int) (a0_12 : ByteArray) (a0_13 : ByteArray) (a0_14 : Int) (w : World) (p0 : decide (a0_0 < 1) = false) (p1 : decide (a0_0 > 16) = false) (p2 : decide (a0_1 < 1) = false) (p3 : decide (a0_1 > 1152921504606846976) = false) (p8 : decide (a0_8 < 0) = false) (h9 : (a0_9 != -1) = true) (hl : decide (a0_9 ≤ a0_8) = false) (hd : ∀ W, Calls Try.prog 80 #[.agg #[.int .i64 a0_4, .string a0_5, .string a0_6, .int .i64 a0_7]] W fun e w' => e = .returned (.int .i64 0) ∧ Below W.heap.size W w') (hk : (a0_3.toList == a0_5.toList) = true) :
    Calls Try.prog 43 #[.agg #[.int .i64 a0_0, .int .i64 a0_1, .bool false, .string a0_3, .int .i64 a0_4, .string a0_5, .string a0_6, .int .i64 a0_7, .int .i64 a0_8, .int .i64 a0_9, .int .i64 a0_10, .int .i64 a0_11, .string a0_12, .string a0_13, .int .i64 a0_14, .bool true]] w fun e w' => e = .returned (.bool false) ∧ Below w.heap.size w w' := by
  have hu39 := Try.underlying39
  have hu32 := Try.underlying32
  have hu35 := Try.underlying35
  have hu37 := Try.underlying37
  have HP := Lib.hid (fun W => plainOp_ax a0_4 a0_5 a0_6 a0_7 W)
  have HD := Lib.hid hd
  clear hd
  go_enter Try.func43, Try.ntmps43
  go_upto_region 1 with (fail)
  obtain ⟨B, hB⟩ : ∃ B, RowKit.Hid (B = w.heap.size) := ⟨_, Lib.hid rfl⟩
  obtain ⟨W1, hW1⟩ : ∃ W1, w.alloc (.cells #[.int .i64 a0_0, .int .i64 a0_1, .bool false, .string a0_3, .int .i64 a0_4, .string a0_5, .string a0_6, .int .i64 a0_7, .int .i64 a0_8, .int .i64 a0_9, .int .i64 a0_10, .int .i64 a0_11, .string a0_12, .string a0_13, .int .i64 a0_14, .bool true] 39) = W1 := ⟨_, rfl⟩
  have g1 : W1.heap[B]? = some (.cells #[.int .i64 a0_0, .int .i64 a0_1, .bool false, .string a0_3, .int .i64 a0_4, .string a0_5, .string a0_6, .int .i64 a0_7, .int .i64 a0_8, .int .i64 a0_9, .int .i64 a0_10, .int .i64 a0_11, .string a0_12, .string a0_13, .int .i64 a0_14, .bool true] 39 (0, 0)) := by rw [← hW1, hB.out]; exact heap_alloc_new w _
  have b1 : Below w.heap.size w W1 := by rw [← hW1]; exact (Below.refl _ _).alloc (Nat.le_refl _) _
  rw [hW1, ← hB.out]
  clear hW1
  obtain ⟨z0, z1, z2, z3, z4, z5, z6, z7, z8, z9, z10, z11, z12, z13, z14, z15⟩ := cells16 g1
  have G1 := Lib.hid (And.intro g1 b1)
  clear g1 b1
  go_wp2_with (first
    | (go_at_call 81; refine (HP.out _).mono ?_; rintro e w2 ⟨rfl, hb1⟩; have g2 := blk_below (by first | exact G1.out.1 | exact blk_drewN G1.out.1 _) hb1; have b2 : Below w.heap.size w w2 := (by first | exact G1.out.2 | exact pw_below_drewN G1.out.2 _ : Below w.heap.size w _).trans (hb1.mono (by first | exact G1.out.2.size | exact (pw_below_drewN G1.out.2 _).size)); have hz2 : B < w2.heap.size := blk_lt g2; obtain ⟨y0, y1, y2, y3, y4, y5, y6, y7, y8, y9, y10, y11, y12, y13, y14, y15⟩ := cells16 g2; clear z0 z1 z2 z3 z4 z5 z6 z7 z8 z9 z10 z11 z12 z13 z14 z15; have G2 := Lib.hid (And.intro g2 b2); clear g2 b2 hb1)
    | (go_at_call 80; refine (HD.out _).mono ?_; rintro e w3 ⟨rfl, hb2⟩; have g3 := blk_below (by first | exact G2.out.1 | exact blk_drewN G2.out.1 _) hb2; have b3 : Below w.heap.size w w3 := (by first | exact G2.out.2 | exact pw_below_drewN G2.out.2 _ : Below w.heap.size w _).trans (hb2.mono (by first | exact G2.out.2.size | exact (pw_below_drewN G2.out.2 _).size)); have hz3 : B < w3.heap.size := blk_lt g3; obtain ⟨v0, v1, v2, v3, v4, v5, v6, v7, v8, v9, v10, v11, v12, v13, v14, v15⟩ := cells16 g3; clear y0 y1 y2 y3 y4 y5 y6 y7 y8 y9 y10 y11 y12 y13 y14 y15 hz2; have G3 := Lib.hid (And.intro g3 b3); clear g3 b3 hb2)
    | ((with_reducible refine gate_dst (N := 64) rfl ?_); (try (refine gate_guard (by rfl) ?_; dsimp only)); refine wpList_load_row rfl 39 (.tmp 1) rfl B rfl 39 #[.int .i64 a0_0, .int .i64 a0_1, .bool false, .string a0_3, .int .i64 a0_4, .string a0_5, .string a0_6, .int .i64 a0_7, .int .i64 a0_8, .int .i64 a0_9, .int .i64 a0_10, .int .i64 a0_11, .string a0_12, .string a0_13, .int .i64 a0_14, .bool true] (0, 0) _ (by first | exact G5.out.1 | exact blk_drewN G5.out.1 _ | exact G4.out.1 | exact blk_drewN G4.out.1 _ | exact G3.out.1 | exact blk_drewN G3.out.1 _ | exact G2.out.1 | exact blk_drewN G2.out.1 _ | exact G1.out.1 | exact blk_drewN G1.out.1 _) Try.underlying39 rfl (by kernel_rfl) ?_)
    | ((with_reducible refine gate_dst (N := 96) rfl ?_); (try (refine gate_guard (by rfl) ?_; dsimp only)); refine wpList_load_row rfl 39 (.tmp 1) rfl B rfl 39 #[.int .i64 a0_0, .int .i64 a0_1, .bool false, .string a0_3, .int .i64 a0_4, .string a0_5, .string a0_6, .int .i64 a0_7, .int .i64 a0_8, .int .i64 a0_9, .int .i64 a0_10, .int .i64 a0_11, .string a0_12, .string a0_13, .int .i64 a0_14, .bool true] (0, 0) _ (by first | exact G5.out.1 | exact blk_drewN G5.out.1 _ | exact G4.out.1 | exact blk_drewN G4.out.1 _ | exact G3.out.1 | exact blk_drewN G3.out.1 _ | exact G2.out.1 | exact blk_drewN G2.out.1 _ | exact G1.out.1 | exact blk_drewN G1.out.1 _) Try.underlying39 rfl (by kernel_rfl) ?_)
    | (fail))
  go_ret
  exact ⟨by first | rfl | simp, by with_reducible first | exact G3.out.2 | exact pw_below_drewN G3.out.2 _ | exact pw_below_drewN (pw_below_drewN G3.out.2 _) _ | exact G3.out.2.alloc G3.out.2.size _ | exact pw_below_drewN (G3.out.2.alloc G3.out.2.size _) _⟩
set_option maxRecDepth 100000 in
theorem may_ew12 (a0_0 : Int) (a0_1 : Int) (a0_3 : ByteArray) (a0_4 : Int) (a0_5 : ByteArray) (a0_6 : ByteArray) (a0_7 : Int) (a0_8 : Int) (a0_9 : Int) (a0_10 : Int) (a0_11 : Int) (a0_12 : ByteArray) (a0_13 : ByteArray) (a0_14 : Int) (w : World) (p0 : decide (a0_0 < 1) = false) (p1 : decide (a0_0 > 16) = false) (p2 : decide (a0_1 < 1) = false) (p3 : decide (a0_1 > 1152921504606846976) = false) (p8 : decide (a0_8 < 0) = false) (h9 : (a0_9 != -1) = true) (hl : decide (a0_9 ≤ a0_8) = false) (hd : ∀ W, Calls Try.prog 80 #[.agg #[.int .i64 a0_4, .string a0_5, .string a0_6, .int .i64 a0_7]] W fun e w' => e = .returned (.int .i64 0) ∧ Below W.heap.size W w') (hk : (a0_3.toList == a0_5.toList) = true) (h_a0_12 : a0_12.toList.isEmpty = false) :
    Calls Try.prog 43 #[.agg #[.int .i64 a0_0, .int .i64 a0_1, .bool false, .string a0_3, .int .i64 a0_4, .string a0_5, .string a0_6, .int .i64 a0_7, .int .i64 a0_8, .int .i64 a0_9, .int .i64 a0_10, .int .i64 a0_11, .string a0_12, .string a0_13, .int .i64 a0_14, .bool false]] w fun e w' => e = .returned (.bool false) ∧ Below w.heap.size w w' := by
  have hu39 := Try.underlying39
  have hu32 := Try.underlying32
  have hu35 := Try.underlying35
  have hu37 := Try.underlying37
  have HP := Lib.hid (fun W => plainOp_ax a0_4 a0_5 a0_6 a0_7 W)
  have HD := Lib.hid hd
  clear hd
  go_enter Try.func43, Try.ntmps43
  go_upto_region 1 with (fail)
  obtain ⟨B, hB⟩ : ∃ B, RowKit.Hid (B = w.heap.size) := ⟨_, Lib.hid rfl⟩
  obtain ⟨W1, hW1⟩ : ∃ W1, w.alloc (.cells #[.int .i64 a0_0, .int .i64 a0_1, .bool false, .string a0_3, .int .i64 a0_4, .string a0_5, .string a0_6, .int .i64 a0_7, .int .i64 a0_8, .int .i64 a0_9, .int .i64 a0_10, .int .i64 a0_11, .string a0_12, .string a0_13, .int .i64 a0_14, .bool false] 39) = W1 := ⟨_, rfl⟩
  have g1 : W1.heap[B]? = some (.cells #[.int .i64 a0_0, .int .i64 a0_1, .bool false, .string a0_3, .int .i64 a0_4, .string a0_5, .string a0_6, .int .i64 a0_7, .int .i64 a0_8, .int .i64 a0_9, .int .i64 a0_10, .int .i64 a0_11, .string a0_12, .string a0_13, .int .i64 a0_14, .bool false] 39 (0, 0)) := by rw [← hW1, hB.out]; exact heap_alloc_new w _
  have b1 : Below w.heap.size w W1 := by rw [← hW1]; exact (Below.refl _ _).alloc (Nat.le_refl _) _
  rw [hW1, ← hB.out]
  clear hW1
  obtain ⟨z0, z1, z2, z3, z4, z5, z6, z7, z8, z9, z10, z11, z12, z13, z14, z15⟩ := cells16 g1
  have G1 := Lib.hid (And.intro g1 b1)
  clear g1 b1
  go_wp2_with (first
    | (go_at_call 81; refine (HP.out _).mono ?_; rintro e w2 ⟨rfl, hb1⟩; have g2 := blk_below (by first | exact G1.out.1 | exact blk_drewN G1.out.1 _) hb1; have b2 : Below w.heap.size w w2 := (by first | exact G1.out.2 | exact pw_below_drewN G1.out.2 _ : Below w.heap.size w _).trans (hb1.mono (by first | exact G1.out.2.size | exact (pw_below_drewN G1.out.2 _).size)); have hz2 : B < w2.heap.size := blk_lt g2; obtain ⟨y0, y1, y2, y3, y4, y5, y6, y7, y8, y9, y10, y11, y12, y13, y14, y15⟩ := cells16 g2; clear z0 z1 z2 z3 z4 z5 z6 z7 z8 z9 z10 z11 z12 z13 z14 z15; have G2 := Lib.hid (And.intro g2 b2); clear g2 b2 hb1)
    | (go_at_call 80; refine (HD.out _).mono ?_; rintro e w3 ⟨rfl, hb2⟩; have g3 := blk_below (by first | exact G2.out.1 | exact blk_drewN G2.out.1 _) hb2; have b3 : Below w.heap.size w w3 := (by first | exact G2.out.2 | exact pw_below_drewN G2.out.2 _ : Below w.heap.size w _).trans (hb2.mono (by first | exact G2.out.2.size | exact (pw_below_drewN G2.out.2 _).size)); have hz3 : B < w3.heap.size := blk_lt g3; obtain ⟨v0, v1, v2, v3, v4, v5, v6, v7, v8, v9, v10, v11, v12, v13, v14, v15⟩ := cells16 g3; clear y0 y1 y2 y3 y4 y5 y6 y7 y8 y9 y10 y11 y12 y13 y14 y15 hz2; have G3 := Lib.hid (And.intro g3 b3); clear g3 b3 hb2)
    | ((with_reducible refine gate_dst (N := 64) rfl ?_); (try (refine gate_guard (by rfl) ?_; dsimp only)); refine wpList_load_row rfl 39 (.tmp 1) rfl B rfl 39 #[.int .i64 a0_0, .int .i64 a0_1, .bool false, .string a0_3, .int .i64 a0_4, .string a0_5, .string a0_6, .int .i64 a0_7, .int .i64 a0_8, .int .i64 a0_9, .int .i64 a0_10, .int .i64 a0_11, .string a0_12, .string a0_13, .int .i64 a0_14, .bool false] (0, 0) _ (by first | exact G5.out.1 | exact blk_drewN G5.out.1 _ | exact G4.out.1 | exact blk_drewN G4.out.1 _ | exact G3.out.1 | exact blk_drewN G3.out.1 _ | exact G2.out.1 | exact blk_drewN G2.out.1 _ | exact G1.out.1 | exact blk_drewN G1.out.1 _) Try.underlying39 rfl (by kernel_rfl) ?_)
    | ((with_reducible refine gate_dst (N := 96) rfl ?_); (try (refine gate_guard (by rfl) ?_; dsimp only)); refine wpList_load_row rfl 39 (.tmp 1) rfl B rfl 39 #[.int .i64 a0_0, .int .i64 a0_1, .bool false, .string a0_3, .int .i64 a0_4, .string a0_5, .string a0_6, .int .i64 a0_7, .int .i64 a0_8, .int .i64 a0_9, .int .i64 a0_10, .int .i64 a0_11, .string a0_12, .string a0_13, .int .i64 a0_14, .bool false] (0, 0) _ (by first | exact G5.out.1 | exact blk_drewN G5.out.1 _ | exact G4.out.1 | exact blk_drewN G4.out.1 _ | exact G3.out.1 | exact blk_drewN G3.out.1 _ | exact G2.out.1 | exact blk_drewN G2.out.1 _ | exact G1.out.1 | exact blk_drewN G1.out.1 _) Try.underlying39 rfl (by kernel_rfl) ?_)
    | (fail))
  go_ret
  exact ⟨by first | rfl | simp, by with_reducible first | exact G3.out.2 | exact pw_below_drewN G3.out.2 _ | exact pw_below_drewN (pw_below_drewN G3.out.2 _) _ | exact G3.out.2.alloc G3.out.2.size _ | exact pw_below_drewN (G3.out.2.alloc G3.out.2.size _) _⟩
set_option maxRecDepth 100000 in
theorem may_ew13 (a0_0 : Int) (a0_1 : Int) (a0_3 : ByteArray) (a0_4 : Int) (a0_5 : ByteArray) (a0_6 : ByteArray) (a0_7 : Int) (a0_8 : Int) (a0_9 : Int) (a0_10 : Int) (a0_11 : Int) (a0_13 : ByteArray) (a0_14 : Int) (w : World) (p0 : decide (a0_0 < 1) = false) (p1 : decide (a0_0 > 16) = false) (p2 : decide (a0_1 < 1) = false) (p3 : decide (a0_1 > 1152921504606846976) = false) (p8 : decide (a0_8 < 0) = false) (h9 : (a0_9 != -1) = true) (hl : decide (a0_9 ≤ a0_8) = false) (hd : ∀ W, Calls Try.prog 80 #[.agg #[.int .i64 a0_4, .string a0_5, .string a0_6, .int .i64 a0_7]] W fun e w' => e = .returned (.int .i64 0) ∧ Below W.heap.size W w') (hk : (a0_3.toList == a0_5.toList) = true) (h_a0_13 : a0_13.toList.isEmpty = false) :
    Calls Try.prog 43 #[.agg #[.int .i64 a0_0, .int .i64 a0_1, .bool false, .string a0_3, .int .i64 a0_4, .string a0_5, .string a0_6, .int .i64 a0_7, .int .i64 a0_8, .int .i64 a0_9, .int .i64 a0_10, .int .i64 a0_11, .string (⟨#[]⟩ : ByteArray), .string a0_13, .int .i64 a0_14, .bool false]] w fun e w' => e = .returned (.bool false) ∧ Below w.heap.size w w' := by
  have hu39 := Try.underlying39
  have hu32 := Try.underlying32
  have hu35 := Try.underlying35
  have hu37 := Try.underlying37
  have HP := Lib.hid (fun W => plainOp_ax a0_4 a0_5 a0_6 a0_7 W)
  have HD := Lib.hid hd
  clear hd
  go_enter Try.func43, Try.ntmps43
  go_upto_region 1 with (fail)
  obtain ⟨B, hB⟩ : ∃ B, RowKit.Hid (B = w.heap.size) := ⟨_, Lib.hid rfl⟩
  obtain ⟨W1, hW1⟩ : ∃ W1, w.alloc (.cells #[.int .i64 a0_0, .int .i64 a0_1, .bool false, .string a0_3, .int .i64 a0_4, .string a0_5, .string a0_6, .int .i64 a0_7, .int .i64 a0_8, .int .i64 a0_9, .int .i64 a0_10, .int .i64 a0_11, .string (⟨#[]⟩ : ByteArray), .string a0_13, .int .i64 a0_14, .bool false] 39) = W1 := ⟨_, rfl⟩
  have g1 : W1.heap[B]? = some (.cells #[.int .i64 a0_0, .int .i64 a0_1, .bool false, .string a0_3, .int .i64 a0_4, .string a0_5, .string a0_6, .int .i64 a0_7, .int .i64 a0_8, .int .i64 a0_9, .int .i64 a0_10, .int .i64 a0_11, .string (⟨#[]⟩ : ByteArray), .string a0_13, .int .i64 a0_14, .bool false] 39 (0, 0)) := by rw [← hW1, hB.out]; exact heap_alloc_new w _
  have b1 : Below w.heap.size w W1 := by rw [← hW1]; exact (Below.refl _ _).alloc (Nat.le_refl _) _
  rw [hW1, ← hB.out]
  clear hW1
  obtain ⟨z0, z1, z2, z3, z4, z5, z6, z7, z8, z9, z10, z11, z12, z13, z14, z15⟩ := cells16 g1
  have G1 := Lib.hid (And.intro g1 b1)
  clear g1 b1
  go_wp2_with (first
    | (go_at_call 81; refine (HP.out _).mono ?_; rintro e w2 ⟨rfl, hb1⟩; have g2 := blk_below (by first | exact G1.out.1 | exact blk_drewN G1.out.1 _) hb1; have b2 : Below w.heap.size w w2 := (by first | exact G1.out.2 | exact pw_below_drewN G1.out.2 _ : Below w.heap.size w _).trans (hb1.mono (by first | exact G1.out.2.size | exact (pw_below_drewN G1.out.2 _).size)); have hz2 : B < w2.heap.size := blk_lt g2; obtain ⟨y0, y1, y2, y3, y4, y5, y6, y7, y8, y9, y10, y11, y12, y13, y14, y15⟩ := cells16 g2; clear z0 z1 z2 z3 z4 z5 z6 z7 z8 z9 z10 z11 z12 z13 z14 z15; have G2 := Lib.hid (And.intro g2 b2); clear g2 b2 hb1)
    | (go_at_call 80; refine (HD.out _).mono ?_; rintro e w3 ⟨rfl, hb2⟩; have g3 := blk_below (by first | exact G2.out.1 | exact blk_drewN G2.out.1 _) hb2; have b3 : Below w.heap.size w w3 := (by first | exact G2.out.2 | exact pw_below_drewN G2.out.2 _ : Below w.heap.size w _).trans (hb2.mono (by first | exact G2.out.2.size | exact (pw_below_drewN G2.out.2 _).size)); have hz3 : B < w3.heap.size := blk_lt g3; obtain ⟨v0, v1, v2, v3, v4, v5, v6, v7, v8, v9, v10, v11, v12, v13, v14, v15⟩ := cells16 g3; clear y0 y1 y2 y3 y4 y5 y6 y7 y8 y9 y10 y11 y12 y13 y14 y15 hz2; have G3 := Lib.hid (And.intro g3 b3); clear g3 b3 hb2)
    | ((with_reducible refine gate_dst (N := 64) rfl ?_); (try (refine gate_guard (by rfl) ?_; dsimp only)); refine wpList_load_row rfl 39 (.tmp 1) rfl B rfl 39 #[.int .i64 a0_0, .int .i64 a0_1, .bool false, .string a0_3, .int .i64 a0_4, .string a0_5, .string a0_6, .int .i64 a0_7, .int .i64 a0_8, .int .i64 a0_9, .int .i64 a0_10, .int .i64 a0_11, .string (⟨#[]⟩ : ByteArray), .string a0_13, .int .i64 a0_14, .bool false] (0, 0) _ (by first | exact G5.out.1 | exact blk_drewN G5.out.1 _ | exact G4.out.1 | exact blk_drewN G4.out.1 _ | exact G3.out.1 | exact blk_drewN G3.out.1 _ | exact G2.out.1 | exact blk_drewN G2.out.1 _ | exact G1.out.1 | exact blk_drewN G1.out.1 _) Try.underlying39 rfl (by kernel_rfl) ?_)
    | ((with_reducible refine gate_dst (N := 96) rfl ?_); (try (refine gate_guard (by rfl) ?_; dsimp only)); refine wpList_load_row rfl 39 (.tmp 1) rfl B rfl 39 #[.int .i64 a0_0, .int .i64 a0_1, .bool false, .string a0_3, .int .i64 a0_4, .string a0_5, .string a0_6, .int .i64 a0_7, .int .i64 a0_8, .int .i64 a0_9, .int .i64 a0_10, .int .i64 a0_11, .string (⟨#[]⟩ : ByteArray), .string a0_13, .int .i64 a0_14, .bool false] (0, 0) _ (by first | exact G5.out.1 | exact blk_drewN G5.out.1 _ | exact G4.out.1 | exact blk_drewN G4.out.1 _ | exact G3.out.1 | exact blk_drewN G3.out.1 _ | exact G2.out.1 | exact blk_drewN G2.out.1 _ | exact G1.out.1 | exact blk_drewN G1.out.1 _) Try.underlying39 rfl (by kernel_rfl) ?_)
    | (fail))
  go_ret
  exact ⟨by first | rfl | simp, by with_reducible first | exact G3.out.2 | exact pw_below_drewN G3.out.2 _ | exact pw_below_drewN (pw_below_drewN G3.out.2 _) _ | exact G3.out.2.alloc G3.out.2.size _ | exact pw_below_drewN (G3.out.2.alloc G3.out.2.size _) _⟩
set_option maxRecDepth 100000 in
theorem may_ew14 (a0_0 : Int) (a0_1 : Int) (a0_3 : ByteArray) (a0_4 : Int) (a0_5 : ByteArray) (a0_6 : ByteArray) (a0_7 : Int) (a0_8 : Int) (a0_9 : Int) (a0_10 : Int) (a0_11 : Int) (a0_14 : Int) (w : World) (p0 : decide (a0_0 < 1) = false) (p1 : decide (a0_0 > 16) = false) (p2 : decide (a0_1 < 1) = false) (p3 : decide (a0_1 > 1152921504606846976) = false) (p8 : decide (a0_8 < 0) = false) (h9 : (a0_9 != -1) = true) (hl : decide (a0_9 ≤ a0_8) = false) (hd : ∀ W, Calls Try.prog 80 #[.agg #[.int .i64 a0_4, .string a0_5, .string a0_6, .int .i64 a0_7]] W fun e w' => e = .returned (.int .i64 0) ∧ Below W.heap.size W w') (hk : (a0_3.toList == a0_5.toList) = true) (h_a0_14 : (a0_14 == 0) = false) :
    Calls Try.prog 43 #[.agg #[.int .i64 a0_0, .int .i64 a0_1, .bool false, .string a0_3, .int .i64 a0_4, .string a0_5, .string a0_6, .int .i64 a0_7, .int .i64 a0_8, .int .i64 a0_9, .int .i64 a0_10, .int .i64 a0_11, .string (⟨#[]⟩ : ByteArray), .string (⟨#[]⟩ : ByteArray), .int .i64 a0_14, .bool false]] w fun e w' => e = .returned (.bool false) ∧ Below w.heap.size w w' := by
  have hu39 := Try.underlying39
  have hu32 := Try.underlying32
  have hu35 := Try.underlying35
  have hu37 := Try.underlying37
  have HP := Lib.hid (fun W => plainOp_ax a0_4 a0_5 a0_6 a0_7 W)
  have HD := Lib.hid hd
  clear hd
  go_enter Try.func43, Try.ntmps43
  go_upto_region 1 with (fail)
  obtain ⟨B, hB⟩ : ∃ B, RowKit.Hid (B = w.heap.size) := ⟨_, Lib.hid rfl⟩
  obtain ⟨W1, hW1⟩ : ∃ W1, w.alloc (.cells #[.int .i64 a0_0, .int .i64 a0_1, .bool false, .string a0_3, .int .i64 a0_4, .string a0_5, .string a0_6, .int .i64 a0_7, .int .i64 a0_8, .int .i64 a0_9, .int .i64 a0_10, .int .i64 a0_11, .string (⟨#[]⟩ : ByteArray), .string (⟨#[]⟩ : ByteArray), .int .i64 a0_14, .bool false] 39) = W1 := ⟨_, rfl⟩
  have g1 : W1.heap[B]? = some (.cells #[.int .i64 a0_0, .int .i64 a0_1, .bool false, .string a0_3, .int .i64 a0_4, .string a0_5, .string a0_6, .int .i64 a0_7, .int .i64 a0_8, .int .i64 a0_9, .int .i64 a0_10, .int .i64 a0_11, .string (⟨#[]⟩ : ByteArray), .string (⟨#[]⟩ : ByteArray), .int .i64 a0_14, .bool false] 39 (0, 0)) := by rw [← hW1, hB.out]; exact heap_alloc_new w _
  have b1 : Below w.heap.size w W1 := by rw [← hW1]; exact (Below.refl _ _).alloc (Nat.le_refl _) _
  rw [hW1, ← hB.out]
  clear hW1
  obtain ⟨z0, z1, z2, z3, z4, z5, z6, z7, z8, z9, z10, z11, z12, z13, z14, z15⟩ := cells16 g1
  have G1 := Lib.hid (And.intro g1 b1)
  clear g1 b1
  go_wp2_with (first
    | (go_at_call 81; refine (HP.out _).mono ?_; rintro e w2 ⟨rfl, hb1⟩; have g2 := blk_below (by first | exact G1.out.1 | exact blk_drewN G1.out.1 _) hb1; have b2 : Below w.heap.size w w2 := (by first | exact G1.out.2 | exact pw_below_drewN G1.out.2 _ : Below w.heap.size w _).trans (hb1.mono (by first | exact G1.out.2.size | exact (pw_below_drewN G1.out.2 _).size)); have hz2 : B < w2.heap.size := blk_lt g2; obtain ⟨y0, y1, y2, y3, y4, y5, y6, y7, y8, y9, y10, y11, y12, y13, y14, y15⟩ := cells16 g2; clear z0 z1 z2 z3 z4 z5 z6 z7 z8 z9 z10 z11 z12 z13 z14 z15; have G2 := Lib.hid (And.intro g2 b2); clear g2 b2 hb1)
    | (go_at_call 80; refine (HD.out _).mono ?_; rintro e w3 ⟨rfl, hb2⟩; have g3 := blk_below (by first | exact G2.out.1 | exact blk_drewN G2.out.1 _) hb2; have b3 : Below w.heap.size w w3 := (by first | exact G2.out.2 | exact pw_below_drewN G2.out.2 _ : Below w.heap.size w _).trans (hb2.mono (by first | exact G2.out.2.size | exact (pw_below_drewN G2.out.2 _).size)); have hz3 : B < w3.heap.size := blk_lt g3; obtain ⟨v0, v1, v2, v3, v4, v5, v6, v7, v8, v9, v10, v11, v12, v13, v14, v15⟩ := cells16 g3; clear y0 y1 y2 y3 y4 y5 y6 y7 y8 y9 y10 y11 y12 y13 y14 y15 hz2; have G3 := Lib.hid (And.intro g3 b3); clear g3 b3 hb2)
    | ((with_reducible refine gate_dst (N := 64) rfl ?_); (try (refine gate_guard (by rfl) ?_; dsimp only)); refine wpList_load_row rfl 39 (.tmp 1) rfl B rfl 39 #[.int .i64 a0_0, .int .i64 a0_1, .bool false, .string a0_3, .int .i64 a0_4, .string a0_5, .string a0_6, .int .i64 a0_7, .int .i64 a0_8, .int .i64 a0_9, .int .i64 a0_10, .int .i64 a0_11, .string (⟨#[]⟩ : ByteArray), .string (⟨#[]⟩ : ByteArray), .int .i64 a0_14, .bool false] (0, 0) _ (by first | exact G5.out.1 | exact blk_drewN G5.out.1 _ | exact G4.out.1 | exact blk_drewN G4.out.1 _ | exact G3.out.1 | exact blk_drewN G3.out.1 _ | exact G2.out.1 | exact blk_drewN G2.out.1 _ | exact G1.out.1 | exact blk_drewN G1.out.1 _) Try.underlying39 rfl (by kernel_rfl) ?_)
    | ((with_reducible refine gate_dst (N := 96) rfl ?_); (try (refine gate_guard (by rfl) ?_; dsimp only)); refine wpList_load_row rfl 39 (.tmp 1) rfl B rfl 39 #[.int .i64 a0_0, .int .i64 a0_1, .bool false, .string a0_3, .int .i64 a0_4, .string a0_5, .string a0_6, .int .i64 a0_7, .int .i64 a0_8, .int .i64 a0_9, .int .i64 a0_10, .int .i64 a0_11, .string (⟨#[]⟩ : ByteArray), .string (⟨#[]⟩ : ByteArray), .int .i64 a0_14, .bool false] (0, 0) _ (by first | exact G5.out.1 | exact blk_drewN G5.out.1 _ | exact G4.out.1 | exact blk_drewN G4.out.1 _ | exact G3.out.1 | exact blk_drewN G3.out.1 _ | exact G2.out.1 | exact blk_drewN G2.out.1 _ | exact G1.out.1 | exact blk_drewN G1.out.1 _) Try.underlying39 rfl (by kernel_rfl) ?_)
    | (fail))
  go_ret
  exact ⟨by first | rfl | simp, by with_reducible first | exact G3.out.2 | exact pw_below_drewN G3.out.2 _ | exact pw_below_drewN (pw_below_drewN G3.out.2 _) _ | exact G3.out.2.alloc G3.out.2.size _ | exact pw_below_drewN (G3.out.2.alloc G3.out.2.size _) _⟩
set_option maxRecDepth 100000 in
theorem may_ee (a0_0 : Int) (a0_1 : Int) (a0_3 : ByteArray) (a0_4 : Int) (a0_5 : ByteArray) (a0_6 : ByteArray) (a0_7 : Int) (a0_8 : Int) (a0_9 : Int) (a0_10 : Int) (a0_11 : Int) (w : World) (p0 : decide (a0_0 < 1) = false) (p1 : decide (a0_0 > 16) = false) (p2 : decide (a0_1 < 1) = false) (p3 : decide (a0_1 > 1152921504606846976) = false) (p8 : decide (a0_8 < 0) = false) (h9 : (a0_9 != -1) = true) (hl : decide (a0_9 ≤ a0_8) = false) (hd : ∀ W, Calls Try.prog 80 #[.agg #[.int .i64 a0_4, .string a0_5, .string a0_6, .int .i64 a0_7]] W fun e w' => e = .returned (.int .i64 0) ∧ Below W.heap.size W w') (hk : (a0_3.toList == a0_5.toList) = true) (b : Bool) (hq : ∀ W, Calls Try.prog 82 #[.agg #[.int .i64 a0_4, .string a0_5, .string a0_6, .int .i64 a0_7], .agg #[.int .i64 a0_10, .int .i64 a0_11]] W fun e w' => e = .returned (.bool b) ∧ Below W.heap.size W w') :
    Calls Try.prog 43 #[.agg #[.int .i64 a0_0, .int .i64 a0_1, .bool false, .string a0_3, .int .i64 a0_4, .string a0_5, .string a0_6, .int .i64 a0_7, .int .i64 a0_8, .int .i64 a0_9, .int .i64 a0_10, .int .i64 a0_11, .string (⟨#[]⟩ : ByteArray), .string (⟨#[]⟩ : ByteArray), .int .i64 0, .bool false]] w fun e w' => e = .returned (.bool b) ∧ Below w.heap.size w w' := by
  have hu39 := Try.underlying39
  have hu32 := Try.underlying32
  have hu35 := Try.underlying35
  have hu37 := Try.underlying37
  have HP := Lib.hid (fun W => plainOp_ax a0_4 a0_5 a0_6 a0_7 W)
  have HD := Lib.hid hd
  clear hd
  have HA := Lib.hid (fun W => ranswered_any (a0_0) (a0_1) (false) (a0_3) (a0_4) (a0_5) (a0_6) (a0_7) (a0_8) (a0_9) (a0_10) (a0_11) ((⟨#[]⟩ : ByteArray)) ((⟨#[]⟩ : ByteArray)) (0) (false) true h9 W)
  have HR := Lib.hid hq
  clear hq
  go_enter Try.func43, Try.ntmps43
  go_upto_region 1 with (fail)
  obtain ⟨B, hB⟩ : ∃ B, RowKit.Hid (B = w.heap.size) := ⟨_, Lib.hid rfl⟩
  obtain ⟨W1, hW1⟩ : ∃ W1, w.alloc (.cells #[.int .i64 a0_0, .int .i64 a0_1, .bool false, .string a0_3, .int .i64 a0_4, .string a0_5, .string a0_6, .int .i64 a0_7, .int .i64 a0_8, .int .i64 a0_9, .int .i64 a0_10, .int .i64 a0_11, .string (⟨#[]⟩ : ByteArray), .string (⟨#[]⟩ : ByteArray), .int .i64 0, .bool false] 39) = W1 := ⟨_, rfl⟩
  have g1 : W1.heap[B]? = some (.cells #[.int .i64 a0_0, .int .i64 a0_1, .bool false, .string a0_3, .int .i64 a0_4, .string a0_5, .string a0_6, .int .i64 a0_7, .int .i64 a0_8, .int .i64 a0_9, .int .i64 a0_10, .int .i64 a0_11, .string (⟨#[]⟩ : ByteArray), .string (⟨#[]⟩ : ByteArray), .int .i64 0, .bool false] 39 (0, 0)) := by rw [← hW1, hB.out]; exact heap_alloc_new w _
  have b1 : Below w.heap.size w W1 := by rw [← hW1]; exact (Below.refl _ _).alloc (Nat.le_refl _) _
  rw [hW1, ← hB.out]
  clear hW1
  obtain ⟨z0, z1, z2, z3, z4, z5, z6, z7, z8, z9, z10, z11, z12, z13, z14, z15⟩ := cells16 g1
  have G1 := Lib.hid (And.intro g1 b1)
  clear g1 b1
  go_wp2_with (first
    | (go_at_call 81; refine (HP.out _).mono ?_; rintro e w2 ⟨rfl, hb1⟩; have g2 := blk_below (by first | exact G1.out.1 | exact blk_drewN G1.out.1 _) hb1; have b2 : Below w.heap.size w w2 := (by first | exact G1.out.2 | exact pw_below_drewN G1.out.2 _ : Below w.heap.size w _).trans (hb1.mono (by first | exact G1.out.2.size | exact (pw_below_drewN G1.out.2 _).size)); have hz2 : B < w2.heap.size := blk_lt g2; obtain ⟨y0, y1, y2, y3, y4, y5, y6, y7, y8, y9, y10, y11, y12, y13, y14, y15⟩ := cells16 g2; clear z0 z1 z2 z3 z4 z5 z6 z7 z8 z9 z10 z11 z12 z13 z14 z15; have G2 := Lib.hid (And.intro g2 b2); clear g2 b2 hb1)
    | (go_at_call 80; refine (HD.out _).mono ?_; rintro e w3 ⟨rfl, hb2⟩; have g3 := blk_below (by first | exact G2.out.1 | exact blk_drewN G2.out.1 _) hb2; have b3 : Below w.heap.size w w3 := (by first | exact G2.out.2 | exact pw_below_drewN G2.out.2 _ : Below w.heap.size w _).trans (hb2.mono (by first | exact G2.out.2.size | exact (pw_below_drewN G2.out.2 _).size)); have hz3 : B < w3.heap.size := blk_lt g3; obtain ⟨v0, v1, v2, v3, v4, v5, v6, v7, v8, v9, v10, v11, v12, v13, v14, v15⟩ := cells16 g3; clear y0 y1 y2 y3 y4 y5 y6 y7 y8 y9 y10 y11 y12 y13 y14 y15 hz2; have G3 := Lib.hid (And.intro g3 b3); clear g3 b3 hb2)
    | (go_at_call 44; refine (HA.out _).mono ?_; rintro e w4 ⟨rfl, hb3⟩; have g4 := blk_below (by first | exact G3.out.1 | exact blk_drewN G3.out.1 _) hb3; have b4 : Below w.heap.size w w4 := (by first | exact G3.out.2 | exact pw_below_drewN G3.out.2 _ : Below w.heap.size w _).trans (hb3.mono (by first | exact G3.out.2.size | exact (pw_below_drewN G3.out.2 _).size)); have hz4 : B < w4.heap.size := blk_lt g4; obtain ⟨u0, u1, u2, u3, u4, u5, u6, u7, u8, u9, u10, u11, u12, u13, u14, u15⟩ := cells16 g4; clear v0 v1 v2 v3 v4 v5 v6 v7 v8 v9 v10 v11 v12 v13 v14 v15 hz3; have G4 := Lib.hid (And.intro g4 b4); clear g4 b4 hb3)
    | (go_at_call 82; refine (HR.out _).mono ?_; rintro e w5 ⟨rfl, hb4⟩; have g5 := blk_below (by first | exact G4.out.1 | exact blk_drewN G4.out.1 _) hb4; have b5 : Below w.heap.size w w5 := (by first | exact G4.out.2 | exact pw_below_drewN G4.out.2 _ : Below w.heap.size w _).trans (hb4.mono (by first | exact G4.out.2.size | exact (pw_below_drewN G4.out.2 _).size)); have hz5 : B < w5.heap.size := blk_lt g5; obtain ⟨t0, t1, t2, t3, t4, t5, t6, t7, t8, t9, t10, t11, t12, t13, t14, t15⟩ := cells16 g5; clear u0 u1 u2 u3 u4 u5 u6 u7 u8 u9 u10 u11 u12 u13 u14 u15 hz4; have G5 := Lib.hid (And.intro g5 b5); clear g5 b5 hb4)
    | ((with_reducible refine gate_dst (N := 64) rfl ?_); (try (refine gate_guard (by rfl) ?_; dsimp only)); refine wpList_load_row rfl 39 (.tmp 1) rfl B rfl 39 #[.int .i64 a0_0, .int .i64 a0_1, .bool false, .string a0_3, .int .i64 a0_4, .string a0_5, .string a0_6, .int .i64 a0_7, .int .i64 a0_8, .int .i64 a0_9, .int .i64 a0_10, .int .i64 a0_11, .string (⟨#[]⟩ : ByteArray), .string (⟨#[]⟩ : ByteArray), .int .i64 0, .bool false] (0, 0) _ (by first | exact G5.out.1 | exact blk_drewN G5.out.1 _ | exact G4.out.1 | exact blk_drewN G4.out.1 _ | exact G3.out.1 | exact blk_drewN G3.out.1 _ | exact G2.out.1 | exact blk_drewN G2.out.1 _ | exact G1.out.1 | exact blk_drewN G1.out.1 _) Try.underlying39 rfl (by kernel_rfl) ?_)
    | ((with_reducible refine gate_dst (N := 96) rfl ?_); (try (refine gate_guard (by rfl) ?_; dsimp only)); refine wpList_load_row rfl 39 (.tmp 1) rfl B rfl 39 #[.int .i64 a0_0, .int .i64 a0_1, .bool false, .string a0_3, .int .i64 a0_4, .string a0_5, .string a0_6, .int .i64 a0_7, .int .i64 a0_8, .int .i64 a0_9, .int .i64 a0_10, .int .i64 a0_11, .string (⟨#[]⟩ : ByteArray), .string (⟨#[]⟩ : ByteArray), .int .i64 0, .bool false] (0, 0) _ (by first | exact G5.out.1 | exact blk_drewN G5.out.1 _ | exact G4.out.1 | exact blk_drewN G4.out.1 _ | exact G3.out.1 | exact blk_drewN G3.out.1 _ | exact G2.out.1 | exact blk_drewN G2.out.1 _ | exact G1.out.1 | exact blk_drewN G1.out.1 _) Try.underlying39 rfl (by kernel_rfl) ?_)
    | (fail))
  go_ret
  exact ⟨by first | rfl | simp, by with_reducible first | exact G5.out.2 | exact pw_below_drewN G5.out.2 _ | exact pw_below_drewN (pw_below_drewN G5.out.2 _) _ | exact G5.out.2.alloc G5.out.2.size _ | exact pw_below_drewN (G5.out.2.alloc G5.out.2.size _) _⟩
set_option maxRecDepth 100000 in
theorem may_eu (a0_0 : Int) (a0_1 : Int) (a0_3 : ByteArray) (a0_4 : Int) (a0_5 : ByteArray) (a0_6 : ByteArray) (a0_7 : Int) (a0_8 : Int) (a0_9 : Int) (a0_10 : Int) (a0_11 : Int) (a0_12 : ByteArray) (a0_13 : ByteArray) (a0_14 : Int) (a0_15 : Bool) (w : World) (p0 : decide (a0_0 < 1) = false) (p1 : decide (a0_0 > 16) = false) (p2 : decide (a0_1 < 1) = false) (p3 : decide (a0_1 > 1152921504606846976) = false) (p8 : decide (a0_8 < 0) = false) (h9 : (a0_9 != -1) = true) (hl : decide (a0_9 ≤ a0_8) = false) (hu : usrB a0_3 = false) :
    Calls Try.prog 43 #[.agg #[.int .i64 a0_0, .int .i64 a0_1, .bool true, .string a0_3, .int .i64 a0_4, .string a0_5, .string a0_6, .int .i64 a0_7, .int .i64 a0_8, .int .i64 a0_9, .int .i64 a0_10, .int .i64 a0_11, .string a0_12, .string a0_13, .int .i64 a0_14, .bool a0_15]] w fun e w' => e = .returned (.bool false) ∧ Below w.heap.size w w' := by
  have hu39 := Try.underlying39
  have hu32 := Try.underlying32
  have hu35 := Try.underlying35
  have hu37 := Try.underlying37
  have HU := Lib.hid (fun W => user_ax a0_3 false hu W)
  clear hu
  go_enter Try.func43, Try.ntmps43
  go_upto_region 1 with (fail)
  obtain ⟨B, hB⟩ : ∃ B, RowKit.Hid (B = w.heap.size) := ⟨_, Lib.hid rfl⟩
  obtain ⟨W1, hW1⟩ : ∃ W1, w.alloc (.cells #[.int .i64 a0_0, .int .i64 a0_1, .bool true, .string a0_3, .int .i64 a0_4, .string a0_5, .string a0_6, .int .i64 a0_7, .int .i64 a0_8, .int .i64 a0_9, .int .i64 a0_10, .int .i64 a0_11, .string a0_12, .string a0_13, .int .i64 a0_14, .bool a0_15] 39) = W1 := ⟨_, rfl⟩
  have g1 : W1.heap[B]? = some (.cells #[.int .i64 a0_0, .int .i64 a0_1, .bool true, .string a0_3, .int .i64 a0_4, .string a0_5, .string a0_6, .int .i64 a0_7, .int .i64 a0_8, .int .i64 a0_9, .int .i64 a0_10, .int .i64 a0_11, .string a0_12, .string a0_13, .int .i64 a0_14, .bool a0_15] 39 (0, 0)) := by rw [← hW1, hB.out]; exact heap_alloc_new w _
  have b1 : Below w.heap.size w W1 := by rw [← hW1]; exact (Below.refl _ _).alloc (Nat.le_refl _) _
  rw [hW1, ← hB.out]
  clear hW1
  obtain ⟨z0, z1, z2, z3, z4, z5, z6, z7, z8, z9, z10, z11, z12, z13, z14, z15⟩ := cells16 g1
  have G1 := Lib.hid (And.intro g1 b1)
  clear g1 b1
  go_wp2_with (first
    | (go_at_call 83; ((with_reducible refine (HU.out _).mono ?_)); rintro e w' ⟨rfl, ⟨nd, rfl⟩⟩)
    | (fail))
  go_ret
  exact ⟨by first | rfl | simp, by with_reducible first | exact G1.out.2 | exact pw_below_drewN G1.out.2 _ | exact pw_below_drewN (pw_below_drewN G1.out.2 _) _ | exact G1.out.2.alloc G1.out.2.size _ | exact pw_below_drewN (G1.out.2.alloc G1.out.2.size _) _⟩
set_option maxRecDepth 100000 in
theorem may_eo4 (a0_0 : Int) (a0_1 : Int) (a0_3 : ByteArray) (a0_4 : Int) (a0_5 : ByteArray) (a0_6 : ByteArray) (a0_7 : Int) (a0_8 : Int) (a0_9 : Int) (a0_10 : Int) (a0_11 : Int) (a0_12 : ByteArray) (a0_13 : ByteArray) (a0_14 : Int) (a0_15 : Bool) (w : World) (p0 : decide (a0_0 < 1) = false) (p1 : decide (a0_0 > 16) = false) (p2 : decide (a0_1 < 1) = false) (p3 : decide (a0_1 > 1152921504606846976) = false) (p8 : decide (a0_8 < 0) = false) (h9 : (a0_9 != -1) = true) (hl : decide (a0_9 ≤ a0_8) = false) (hu : usrB a0_3 = true) (h_a0_4 : (a0_4 == 0) = false) :
    Calls Try.prog 43 #[.agg #[.int .i64 a0_0, .int .i64 a0_1, .bool true, .string a0_3, .int .i64 a0_4, .string a0_5, .string a0_6, .int .i64 a0_7, .int .i64 a0_8, .int .i64 a0_9, .int .i64 a0_10, .int .i64 a0_11, .string a0_12, .string a0_13, .int .i64 a0_14, .bool a0_15]] w fun e w' => e = .returned (.bool false) ∧ Below w.heap.size w w' := by
  have hu39 := Try.underlying39
  have hu32 := Try.underlying32
  have hu35 := Try.underlying35
  have hu37 := Try.underlying37
  have HU := Lib.hid (fun W => user_ax a0_3 true hu W)
  clear hu
  go_enter Try.func43, Try.ntmps43
  go_upto_region 1 with (fail)
  obtain ⟨B, hB⟩ : ∃ B, RowKit.Hid (B = w.heap.size) := ⟨_, Lib.hid rfl⟩
  obtain ⟨W1, hW1⟩ : ∃ W1, w.alloc (.cells #[.int .i64 a0_0, .int .i64 a0_1, .bool true, .string a0_3, .int .i64 a0_4, .string a0_5, .string a0_6, .int .i64 a0_7, .int .i64 a0_8, .int .i64 a0_9, .int .i64 a0_10, .int .i64 a0_11, .string a0_12, .string a0_13, .int .i64 a0_14, .bool a0_15] 39) = W1 := ⟨_, rfl⟩
  have g1 : W1.heap[B]? = some (.cells #[.int .i64 a0_0, .int .i64 a0_1, .bool true, .string a0_3, .int .i64 a0_4, .string a0_5, .string a0_6, .int .i64 a0_7, .int .i64 a0_8, .int .i64 a0_9, .int .i64 a0_10, .int .i64 a0_11, .string a0_12, .string a0_13, .int .i64 a0_14, .bool a0_15] 39 (0, 0)) := by rw [← hW1, hB.out]; exact heap_alloc_new w _
  have b1 : Below w.heap.size w W1 := by rw [← hW1]; exact (Below.refl _ _).alloc (Nat.le_refl _) _
  rw [hW1, ← hB.out]
  clear hW1
  obtain ⟨z0, z1, z2, z3, z4, z5, z6, z7, z8, z9, z10, z11, z12, z13, z14, z15⟩ := cells16 g1
  have G1 := Lib.hid (And.intro g1 b1)
  clear g1 b1
  go_wp2_with (first
    | (go_at_call 83; ((with_reducible refine (HU.out _).mono ?_)); rintro e w' ⟨rfl, ⟨nd, rfl⟩⟩)
    | (fail))
  go_ret
  exact ⟨by first | rfl | simp, by with_reducible first | exact G1.out.2 | exact pw_below_drewN G1.out.2 _ | exact pw_below_drewN (pw_below_drewN G1.out.2 _) _ | exact G1.out.2.alloc G1.out.2.size _ | exact pw_below_drewN (G1.out.2.alloc G1.out.2.size _) _⟩
set_option maxRecDepth 100000 in
theorem may_eo5 (a0_0 : Int) (a0_1 : Int) (a0_3 : ByteArray) (a0_5 : ByteArray) (a0_6 : ByteArray) (a0_7 : Int) (a0_8 : Int) (a0_9 : Int) (a0_10 : Int) (a0_11 : Int) (a0_12 : ByteArray) (a0_13 : ByteArray) (a0_14 : Int) (a0_15 : Bool) (w : World) (p0 : decide (a0_0 < 1) = false) (p1 : decide (a0_0 > 16) = false) (p2 : decide (a0_1 < 1) = false) (p3 : decide (a0_1 > 1152921504606846976) = false) (p8 : decide (a0_8 < 0) = false) (h9 : (a0_9 != -1) = true) (hl : decide (a0_9 ≤ a0_8) = false) (hu : usrB a0_3 = true) (h_a0_5 : a0_5.toList.isEmpty = false) :
    Calls Try.prog 43 #[.agg #[.int .i64 a0_0, .int .i64 a0_1, .bool true, .string a0_3, .int .i64 0, .string a0_5, .string a0_6, .int .i64 a0_7, .int .i64 a0_8, .int .i64 a0_9, .int .i64 a0_10, .int .i64 a0_11, .string a0_12, .string a0_13, .int .i64 a0_14, .bool a0_15]] w fun e w' => e = .returned (.bool false) ∧ Below w.heap.size w w' := by
  have hu39 := Try.underlying39
  have hu32 := Try.underlying32
  have hu35 := Try.underlying35
  have hu37 := Try.underlying37
  have HU := Lib.hid (fun W => user_ax a0_3 true hu W)
  clear hu
  go_enter Try.func43, Try.ntmps43
  go_upto_region 1 with (fail)
  obtain ⟨B, hB⟩ : ∃ B, RowKit.Hid (B = w.heap.size) := ⟨_, Lib.hid rfl⟩
  obtain ⟨W1, hW1⟩ : ∃ W1, w.alloc (.cells #[.int .i64 a0_0, .int .i64 a0_1, .bool true, .string a0_3, .int .i64 0, .string a0_5, .string a0_6, .int .i64 a0_7, .int .i64 a0_8, .int .i64 a0_9, .int .i64 a0_10, .int .i64 a0_11, .string a0_12, .string a0_13, .int .i64 a0_14, .bool a0_15] 39) = W1 := ⟨_, rfl⟩
  have g1 : W1.heap[B]? = some (.cells #[.int .i64 a0_0, .int .i64 a0_1, .bool true, .string a0_3, .int .i64 0, .string a0_5, .string a0_6, .int .i64 a0_7, .int .i64 a0_8, .int .i64 a0_9, .int .i64 a0_10, .int .i64 a0_11, .string a0_12, .string a0_13, .int .i64 a0_14, .bool a0_15] 39 (0, 0)) := by rw [← hW1, hB.out]; exact heap_alloc_new w _
  have b1 : Below w.heap.size w W1 := by rw [← hW1]; exact (Below.refl _ _).alloc (Nat.le_refl _) _
  rw [hW1, ← hB.out]
  clear hW1
  obtain ⟨z0, z1, z2, z3, z4, z5, z6, z7, z8, z9, z10, z11, z12, z13, z14, z15⟩ := cells16 g1
  have G1 := Lib.hid (And.intro g1 b1)
  clear g1 b1
  go_wp2_with (first
    | (go_at_call 83; ((with_reducible refine (HU.out _).mono ?_)); rintro e w' ⟨rfl, ⟨nd, rfl⟩⟩)
    | (fail))
  go_ret
  exact ⟨by first | rfl | simp, by with_reducible first | exact G1.out.2 | exact pw_below_drewN G1.out.2 _ | exact pw_below_drewN (pw_below_drewN G1.out.2 _) _ | exact G1.out.2.alloc G1.out.2.size _ | exact pw_below_drewN (G1.out.2.alloc G1.out.2.size _) _⟩
set_option maxRecDepth 100000 in
theorem may_eo6 (a0_0 : Int) (a0_1 : Int) (a0_3 : ByteArray) (a0_6 : ByteArray) (a0_7 : Int) (a0_8 : Int) (a0_9 : Int) (a0_10 : Int) (a0_11 : Int) (a0_12 : ByteArray) (a0_13 : ByteArray) (a0_14 : Int) (a0_15 : Bool) (w : World) (p0 : decide (a0_0 < 1) = false) (p1 : decide (a0_0 > 16) = false) (p2 : decide (a0_1 < 1) = false) (p3 : decide (a0_1 > 1152921504606846976) = false) (p8 : decide (a0_8 < 0) = false) (h9 : (a0_9 != -1) = true) (hl : decide (a0_9 ≤ a0_8) = false) (hu : usrB a0_3 = true) (h_a0_6 : a0_6.toList.isEmpty = false) :
    Calls Try.prog 43 #[.agg #[.int .i64 a0_0, .int .i64 a0_1, .bool true, .string a0_3, .int .i64 0, .string (⟨#[]⟩ : ByteArray), .string a0_6, .int .i64 a0_7, .int .i64 a0_8, .int .i64 a0_9, .int .i64 a0_10, .int .i64 a0_11, .string a0_12, .string a0_13, .int .i64 a0_14, .bool a0_15]] w fun e w' => e = .returned (.bool false) ∧ Below w.heap.size w w' := by
  have hu39 := Try.underlying39
  have hu32 := Try.underlying32
  have hu35 := Try.underlying35
  have hu37 := Try.underlying37
  have HU := Lib.hid (fun W => user_ax a0_3 true hu W)
  clear hu
  go_enter Try.func43, Try.ntmps43
  go_upto_region 1 with (fail)
  obtain ⟨B, hB⟩ : ∃ B, RowKit.Hid (B = w.heap.size) := ⟨_, Lib.hid rfl⟩
  obtain ⟨W1, hW1⟩ : ∃ W1, w.alloc (.cells #[.int .i64 a0_0, .int .i64 a0_1, .bool true, .string a0_3, .int .i64 0, .string (⟨#[]⟩ : ByteArray), .string a0_6, .int .i64 a0_7, .int .i64 a0_8, .int .i64 a0_9, .int .i64 a0_10, .int .i64 a0_11, .string a0_12, .string a0_13, .int .i64 a0_14, .bool a0_15] 39) = W1 := ⟨_, rfl⟩
  have g1 : W1.heap[B]? = some (.cells #[.int .i64 a0_0, .int .i64 a0_1, .bool true, .string a0_3, .int .i64 0, .string (⟨#[]⟩ : ByteArray), .string a0_6, .int .i64 a0_7, .int .i64 a0_8, .int .i64 a0_9, .int .i64 a0_10, .int .i64 a0_11, .string a0_12, .string a0_13, .int .i64 a0_14, .bool a0_15] 39 (0, 0)) := by rw [← hW1, hB.out]; exact heap_alloc_new w _
  have b1 : Below w.heap.size w W1 := by rw [← hW1]; exact (Below.refl _ _).alloc (Nat.le_refl _) _
  rw [hW1, ← hB.out]
  clear hW1
  obtain ⟨z0, z1, z2, z3, z4, z5, z6, z7, z8, z9, z10, z11, z12, z13, z14, z15⟩ := cells16 g1
  have G1 := Lib.hid (And.intro g1 b1)
  clear g1 b1
  go_wp2_with (first
    | (go_at_call 83; ((with_reducible refine (HU.out _).mono ?_)); rintro e w' ⟨rfl, ⟨nd, rfl⟩⟩)
    | (fail))
  go_ret
  exact ⟨by first | rfl | simp, by with_reducible first | exact G1.out.2 | exact pw_below_drewN G1.out.2 _ | exact pw_below_drewN (pw_below_drewN G1.out.2 _) _ | exact G1.out.2.alloc G1.out.2.size _ | exact pw_below_drewN (G1.out.2.alloc G1.out.2.size _) _⟩
set_option maxRecDepth 100000 in
theorem may_eo7 (a0_0 : Int) (a0_1 : Int) (a0_3 : ByteArray) (a0_7 : Int) (a0_8 : Int) (a0_9 : Int) (a0_10 : Int) (a0_11 : Int) (a0_12 : ByteArray) (a0_13 : ByteArray) (a0_14 : Int) (a0_15 : Bool) (w : World) (p0 : decide (a0_0 < 1) = false) (p1 : decide (a0_0 > 16) = false) (p2 : decide (a0_1 < 1) = false) (p3 : decide (a0_1 > 1152921504606846976) = false) (p8 : decide (a0_8 < 0) = false) (h9 : (a0_9 != -1) = true) (hl : decide (a0_9 ≤ a0_8) = false) (hu : usrB a0_3 = true) (h_a0_7 : (a0_7 == 0) = false) :
    Calls Try.prog 43 #[.agg #[.int .i64 a0_0, .int .i64 a0_1, .bool true, .string a0_3, .int .i64 0, .string (⟨#[]⟩ : ByteArray), .string (⟨#[]⟩ : ByteArray), .int .i64 a0_7, .int .i64 a0_8, .int .i64 a0_9, .int .i64 a0_10, .int .i64 a0_11, .string a0_12, .string a0_13, .int .i64 a0_14, .bool a0_15]] w fun e w' => e = .returned (.bool false) ∧ Below w.heap.size w w' := by
  have hu39 := Try.underlying39
  have hu32 := Try.underlying32
  have hu35 := Try.underlying35
  have hu37 := Try.underlying37
  have HU := Lib.hid (fun W => user_ax a0_3 true hu W)
  clear hu
  go_enter Try.func43, Try.ntmps43
  go_upto_region 1 with (fail)
  obtain ⟨B, hB⟩ : ∃ B, RowKit.Hid (B = w.heap.size) := ⟨_, Lib.hid rfl⟩
  obtain ⟨W1, hW1⟩ : ∃ W1, w.alloc (.cells #[.int .i64 a0_0, .int .i64 a0_1, .bool true, .string a0_3, .int .i64 0, .string (⟨#[]⟩ : ByteArray), .string (⟨#[]⟩ : ByteArray), .int .i64 a0_7, .int .i64 a0_8, .int .i64 a0_9, .int .i64 a0_10, .int .i64 a0_11, .string a0_12, .string a0_13, .int .i64 a0_14, .bool a0_15] 39) = W1 := ⟨_, rfl⟩
  have g1 : W1.heap[B]? = some (.cells #[.int .i64 a0_0, .int .i64 a0_1, .bool true, .string a0_3, .int .i64 0, .string (⟨#[]⟩ : ByteArray), .string (⟨#[]⟩ : ByteArray), .int .i64 a0_7, .int .i64 a0_8, .int .i64 a0_9, .int .i64 a0_10, .int .i64 a0_11, .string a0_12, .string a0_13, .int .i64 a0_14, .bool a0_15] 39 (0, 0)) := by rw [← hW1, hB.out]; exact heap_alloc_new w _
  have b1 : Below w.heap.size w W1 := by rw [← hW1]; exact (Below.refl _ _).alloc (Nat.le_refl _) _
  rw [hW1, ← hB.out]
  clear hW1
  obtain ⟨z0, z1, z2, z3, z4, z5, z6, z7, z8, z9, z10, z11, z12, z13, z14, z15⟩ := cells16 g1
  have G1 := Lib.hid (And.intro g1 b1)
  clear g1 b1
  go_wp2_with (first
    | (go_at_call 83; ((with_reducible refine (HU.out _).mono ?_)); rintro e w' ⟨rfl, ⟨nd, rfl⟩⟩)
    | (fail))
  go_ret
  exact ⟨by first | rfl | simp, by with_reducible first | exact G1.out.2 | exact pw_below_drewN G1.out.2 _ | exact pw_below_drewN (pw_below_drewN G1.out.2 _) _ | exact G1.out.2.alloc G1.out.2.size _ | exact pw_below_drewN (G1.out.2.alloc G1.out.2.size _) _⟩
set_option maxRecDepth 100000 in
theorem may_eo10 (a0_0 : Int) (a0_1 : Int) (a0_3 : ByteArray) (a0_8 : Int) (a0_9 : Int) (a0_10 : Int) (a0_11 : Int) (a0_12 : ByteArray) (a0_13 : ByteArray) (a0_14 : Int) (a0_15 : Bool) (w : World) (p0 : decide (a0_0 < 1) = false) (p1 : decide (a0_0 > 16) = false) (p2 : decide (a0_1 < 1) = false) (p3 : decide (a0_1 > 1152921504606846976) = false) (p8 : decide (a0_8 < 0) = false) (h9 : (a0_9 != -1) = true) (hl : decide (a0_9 ≤ a0_8) = false) (hu : usrB a0_3 = true) (h_a0_10 : (a0_10 == 0) = false) :
    Calls Try.prog 43 #[.agg #[.int .i64 a0_0, .int .i64 a0_1, .bool true, .string a0_3, .int .i64 0, .string (⟨#[]⟩ : ByteArray), .string (⟨#[]⟩ : ByteArray), .int .i64 0, .int .i64 a0_8, .int .i64 a0_9, .int .i64 a0_10, .int .i64 a0_11, .string a0_12, .string a0_13, .int .i64 a0_14, .bool a0_15]] w fun e w' => e = .returned (.bool false) ∧ Below w.heap.size w w' := by
  have hu39 := Try.underlying39
  have hu32 := Try.underlying32
  have hu35 := Try.underlying35
  have hu37 := Try.underlying37
  have HU := Lib.hid (fun W => user_ax a0_3 true hu W)
  clear hu
  go_enter Try.func43, Try.ntmps43
  go_upto_region 1 with (fail)
  obtain ⟨B, hB⟩ : ∃ B, RowKit.Hid (B = w.heap.size) := ⟨_, Lib.hid rfl⟩
  obtain ⟨W1, hW1⟩ : ∃ W1, w.alloc (.cells #[.int .i64 a0_0, .int .i64 a0_1, .bool true, .string a0_3, .int .i64 0, .string (⟨#[]⟩ : ByteArray), .string (⟨#[]⟩ : ByteArray), .int .i64 0, .int .i64 a0_8, .int .i64 a0_9, .int .i64 a0_10, .int .i64 a0_11, .string a0_12, .string a0_13, .int .i64 a0_14, .bool a0_15] 39) = W1 := ⟨_, rfl⟩
  have g1 : W1.heap[B]? = some (.cells #[.int .i64 a0_0, .int .i64 a0_1, .bool true, .string a0_3, .int .i64 0, .string (⟨#[]⟩ : ByteArray), .string (⟨#[]⟩ : ByteArray), .int .i64 0, .int .i64 a0_8, .int .i64 a0_9, .int .i64 a0_10, .int .i64 a0_11, .string a0_12, .string a0_13, .int .i64 a0_14, .bool a0_15] 39 (0, 0)) := by rw [← hW1, hB.out]; exact heap_alloc_new w _
  have b1 : Below w.heap.size w W1 := by rw [← hW1]; exact (Below.refl _ _).alloc (Nat.le_refl _) _
  rw [hW1, ← hB.out]
  clear hW1
  obtain ⟨z0, z1, z2, z3, z4, z5, z6, z7, z8, z9, z10, z11, z12, z13, z14, z15⟩ := cells16 g1
  have G1 := Lib.hid (And.intro g1 b1)
  clear g1 b1
  go_wp2_with (first
    | (go_at_call 83; ((with_reducible refine (HU.out _).mono ?_)); rintro e w' ⟨rfl, ⟨nd, rfl⟩⟩)
    | (fail))
  go_ret
  exact ⟨by first | rfl | simp, by with_reducible first | exact G1.out.2 | exact pw_below_drewN G1.out.2 _ | exact pw_below_drewN (pw_below_drewN G1.out.2 _) _ | exact G1.out.2.alloc G1.out.2.size _ | exact pw_below_drewN (G1.out.2.alloc G1.out.2.size _) _⟩
set_option maxRecDepth 100000 in
theorem may_eo11 (a0_0 : Int) (a0_1 : Int) (a0_3 : ByteArray) (a0_8 : Int) (a0_9 : Int) (a0_11 : Int) (a0_12 : ByteArray) (a0_13 : ByteArray) (a0_14 : Int) (a0_15 : Bool) (w : World) (p0 : decide (a0_0 < 1) = false) (p1 : decide (a0_0 > 16) = false) (p2 : decide (a0_1 < 1) = false) (p3 : decide (a0_1 > 1152921504606846976) = false) (p8 : decide (a0_8 < 0) = false) (h9 : (a0_9 != -1) = true) (hl : decide (a0_9 ≤ a0_8) = false) (hu : usrB a0_3 = true) (h_a0_11 : (a0_11 == 0) = false) :
    Calls Try.prog 43 #[.agg #[.int .i64 a0_0, .int .i64 a0_1, .bool true, .string a0_3, .int .i64 0, .string (⟨#[]⟩ : ByteArray), .string (⟨#[]⟩ : ByteArray), .int .i64 0, .int .i64 a0_8, .int .i64 a0_9, .int .i64 0, .int .i64 a0_11, .string a0_12, .string a0_13, .int .i64 a0_14, .bool a0_15]] w fun e w' => e = .returned (.bool false) ∧ Below w.heap.size w w' := by
  have hu39 := Try.underlying39
  have hu32 := Try.underlying32
  have hu35 := Try.underlying35
  have hu37 := Try.underlying37
  have HU := Lib.hid (fun W => user_ax a0_3 true hu W)
  clear hu
  go_enter Try.func43, Try.ntmps43
  go_upto_region 1 with (fail)
  obtain ⟨B, hB⟩ : ∃ B, RowKit.Hid (B = w.heap.size) := ⟨_, Lib.hid rfl⟩
  obtain ⟨W1, hW1⟩ : ∃ W1, w.alloc (.cells #[.int .i64 a0_0, .int .i64 a0_1, .bool true, .string a0_3, .int .i64 0, .string (⟨#[]⟩ : ByteArray), .string (⟨#[]⟩ : ByteArray), .int .i64 0, .int .i64 a0_8, .int .i64 a0_9, .int .i64 0, .int .i64 a0_11, .string a0_12, .string a0_13, .int .i64 a0_14, .bool a0_15] 39) = W1 := ⟨_, rfl⟩
  have g1 : W1.heap[B]? = some (.cells #[.int .i64 a0_0, .int .i64 a0_1, .bool true, .string a0_3, .int .i64 0, .string (⟨#[]⟩ : ByteArray), .string (⟨#[]⟩ : ByteArray), .int .i64 0, .int .i64 a0_8, .int .i64 a0_9, .int .i64 0, .int .i64 a0_11, .string a0_12, .string a0_13, .int .i64 a0_14, .bool a0_15] 39 (0, 0)) := by rw [← hW1, hB.out]; exact heap_alloc_new w _
  have b1 : Below w.heap.size w W1 := by rw [← hW1]; exact (Below.refl _ _).alloc (Nat.le_refl _) _
  rw [hW1, ← hB.out]
  clear hW1
  obtain ⟨z0, z1, z2, z3, z4, z5, z6, z7, z8, z9, z10, z11, z12, z13, z14, z15⟩ := cells16 g1
  have G1 := Lib.hid (And.intro g1 b1)
  clear g1 b1
  go_wp2_with (first
    | (go_at_call 83; ((with_reducible refine (HU.out _).mono ?_)); rintro e w' ⟨rfl, ⟨nd, rfl⟩⟩)
    | (fail))
  go_ret
  exact ⟨by first | rfl | simp, by with_reducible first | exact G1.out.2 | exact pw_below_drewN G1.out.2 _ | exact pw_below_drewN (pw_below_drewN G1.out.2 _) _ | exact G1.out.2.alloc G1.out.2.size _ | exact pw_below_drewN (G1.out.2.alloc G1.out.2.size _) _⟩
set_option maxRecDepth 100000 in
theorem may_er (a0_0 : Int) (a0_1 : Int) (a0_3 : ByteArray) (a0_8 : Int) (a0_9 : Int) (a0_12 : ByteArray) (a0_13 : ByteArray) (a0_14 : Int) (w : World) (p0 : decide (a0_0 < 1) = false) (p1 : decide (a0_0 > 16) = false) (p2 : decide (a0_1 < 1) = false) (p3 : decide (a0_1 > 1152921504606846976) = false) (p8 : decide (a0_8 < 0) = false) (h9 : (a0_9 != -1) = true) (hl : decide (a0_9 ≤ a0_8) = false) (hu : usrB a0_3 = true) (b : Bool) (hq : ∀ W, Calls Try.prog 84 #[.agg #[.string a0_12, .string a0_13, .int .i64 a0_14], .string a0_3] W fun e w' => e = .returned (.bool b) ∧ Below W.heap.size W w') :
    Calls Try.prog 43 #[.agg #[.int .i64 a0_0, .int .i64 a0_1, .bool true, .string a0_3, .int .i64 0, .string (⟨#[]⟩ : ByteArray), .string (⟨#[]⟩ : ByteArray), .int .i64 0, .int .i64 a0_8, .int .i64 a0_9, .int .i64 0, .int .i64 0, .string a0_12, .string a0_13, .int .i64 a0_14, .bool true]] w fun e w' => e = .returned (.bool b) ∧ Below w.heap.size w w' := by
  have hu39 := Try.underlying39
  have hu32 := Try.underlying32
  have hu35 := Try.underlying35
  have hu37 := Try.underlying37
  have HU := Lib.hid (fun W => user_ax a0_3 true hu W)
  clear hu
  have HA := Lib.hid (fun W => ranswered_any (a0_0) (a0_1) (true) (a0_3) (0) ((⟨#[]⟩ : ByteArray)) ((⟨#[]⟩ : ByteArray)) (0) (a0_8) (a0_9) (0) (0) (a0_12) (a0_13) (a0_14) (true) true h9 W)
  have HR := Lib.hid hq
  clear hq
  go_enter Try.func43, Try.ntmps43
  go_upto_region 1 with (fail)
  obtain ⟨B, hB⟩ : ∃ B, RowKit.Hid (B = w.heap.size) := ⟨_, Lib.hid rfl⟩
  obtain ⟨W1, hW1⟩ : ∃ W1, w.alloc (.cells #[.int .i64 a0_0, .int .i64 a0_1, .bool true, .string a0_3, .int .i64 0, .string (⟨#[]⟩ : ByteArray), .string (⟨#[]⟩ : ByteArray), .int .i64 0, .int .i64 a0_8, .int .i64 a0_9, .int .i64 0, .int .i64 0, .string a0_12, .string a0_13, .int .i64 a0_14, .bool true] 39) = W1 := ⟨_, rfl⟩
  have g1 : W1.heap[B]? = some (.cells #[.int .i64 a0_0, .int .i64 a0_1, .bool true, .string a0_3, .int .i64 0, .string (⟨#[]⟩ : ByteArray), .string (⟨#[]⟩ : ByteArray), .int .i64 0, .int .i64 a0_8, .int .i64 a0_9, .int .i64 0, .int .i64 0, .string a0_12, .string a0_13, .int .i64 a0_14, .bool true] 39 (0, 0)) := by rw [← hW1, hB.out]; exact heap_alloc_new w _
  have b1 : Below w.heap.size w W1 := by rw [← hW1]; exact (Below.refl _ _).alloc (Nat.le_refl _) _
  rw [hW1, ← hB.out]
  clear hW1
  obtain ⟨z0, z1, z2, z3, z4, z5, z6, z7, z8, z9, z10, z11, z12, z13, z14, z15⟩ := cells16 g1
  have G1 := Lib.hid (And.intro g1 b1)
  clear g1 b1
  go_wp2_with (first
    | (go_at_call 44; refine (HA.out _).mono ?_; rintro e w2 ⟨rfl, hb1⟩; have g2 := blk_below (by first | exact G1.out.1 | exact blk_drewN G1.out.1 _) hb1; have b2 : Below w.heap.size w w2 := (by first | exact G1.out.2 | exact pw_below_drewN G1.out.2 _ : Below w.heap.size w _).trans (hb1.mono (by first | exact G1.out.2.size | exact (pw_below_drewN G1.out.2 _).size)); have hz2 : B < w2.heap.size := blk_lt g2; obtain ⟨y0, y1, y2, y3, y4, y5, y6, y7, y8, y9, y10, y11, y12, y13, y14, y15⟩ := cells16 g2; clear z0 z1 z2 z3 z4 z5 z6 z7 z8 z9 z10 z11 z12 z13 z14 z15; have G2 := Lib.hid (And.intro g2 b2); clear g2 b2 hb1)
    | (go_at_call 84; refine (HR.out _).mono ?_; rintro e w3 ⟨rfl, hb2⟩; have g3 := blk_below (by first | exact G2.out.1 | exact blk_drewN G2.out.1 _) hb2; have b3 : Below w.heap.size w w3 := (by first | exact G2.out.2 | exact pw_below_drewN G2.out.2 _ : Below w.heap.size w _).trans (hb2.mono (by first | exact G2.out.2.size | exact (pw_below_drewN G2.out.2 _).size)); have hz3 : B < w3.heap.size := blk_lt g3; obtain ⟨v0, v1, v2, v3, v4, v5, v6, v7, v8, v9, v10, v11, v12, v13, v14, v15⟩ := cells16 g3; clear y0 y1 y2 y3 y4 y5 y6 y7 y8 y9 y10 y11 y12 y13 y14 y15 hz2; have G3 := Lib.hid (And.intro g3 b3); clear g3 b3 hb2)
    | ((with_reducible refine gate_dst (N := 64) rfl ?_); (try (refine gate_guard (by rfl) ?_; dsimp only)); refine wpList_load_row rfl 39 (.tmp 1) rfl B rfl 39 #[.int .i64 a0_0, .int .i64 a0_1, .bool true, .string a0_3, .int .i64 0, .string (⟨#[]⟩ : ByteArray), .string (⟨#[]⟩ : ByteArray), .int .i64 0, .int .i64 a0_8, .int .i64 a0_9, .int .i64 0, .int .i64 0, .string a0_12, .string a0_13, .int .i64 a0_14, .bool true] (0, 0) _ (by first | exact G5.out.1 | exact blk_drewN G5.out.1 _ | exact G4.out.1 | exact blk_drewN G4.out.1 _ | exact G3.out.1 | exact blk_drewN G3.out.1 _ | exact G2.out.1 | exact blk_drewN G2.out.1 _ | exact G1.out.1 | exact blk_drewN G1.out.1 _) Try.underlying39 rfl (by kernel_rfl) ?_)
    | ((with_reducible refine gate_dst (N := 96) rfl ?_); (try (refine gate_guard (by rfl) ?_; dsimp only)); refine wpList_load_row rfl 39 (.tmp 1) rfl B rfl 39 #[.int .i64 a0_0, .int .i64 a0_1, .bool true, .string a0_3, .int .i64 0, .string (⟨#[]⟩ : ByteArray), .string (⟨#[]⟩ : ByteArray), .int .i64 0, .int .i64 a0_8, .int .i64 a0_9, .int .i64 0, .int .i64 0, .string a0_12, .string a0_13, .int .i64 a0_14, .bool true] (0, 0) _ (by first | exact G5.out.1 | exact blk_drewN G5.out.1 _ | exact G4.out.1 | exact blk_drewN G4.out.1 _ | exact G3.out.1 | exact blk_drewN G3.out.1 _ | exact G2.out.1 | exact blk_drewN G2.out.1 _ | exact G1.out.1 | exact blk_drewN G1.out.1 _) Try.underlying39 rfl (by kernel_rfl) ?_)
    | (go_at_call 83; ((with_reducible refine (HU.out _).mono ?_)); rintro e w' ⟨rfl, ⟨nd, rfl⟩⟩)
    | (fail))
  go_ret
  exact ⟨by first | rfl | simp, by with_reducible first | exact G3.out.2 | exact pw_below_drewN G3.out.2 _ | exact pw_below_drewN (pw_below_drewN G3.out.2 _) _ | exact G3.out.2.alloc G3.out.2.size _ | exact pw_below_drewN (G3.out.2.alloc G3.out.2.size _) _⟩
set_option maxRecDepth 100000 in
theorem may_ev12 (a0_0 : Int) (a0_1 : Int) (a0_3 : ByteArray) (a0_8 : Int) (a0_9 : Int) (a0_12 : ByteArray) (a0_13 : ByteArray) (a0_14 : Int) (w : World) (p0 : decide (a0_0 < 1) = false) (p1 : decide (a0_0 > 16) = false) (p2 : decide (a0_1 < 1) = false) (p3 : decide (a0_1 > 1152921504606846976) = false) (p8 : decide (a0_8 < 0) = false) (h9 : (a0_9 != -1) = true) (hl : decide (a0_9 ≤ a0_8) = false) (hu : usrB a0_3 = true) (h_a0_12 : a0_12.toList.isEmpty = false) :
    Calls Try.prog 43 #[.agg #[.int .i64 a0_0, .int .i64 a0_1, .bool true, .string a0_3, .int .i64 0, .string (⟨#[]⟩ : ByteArray), .string (⟨#[]⟩ : ByteArray), .int .i64 0, .int .i64 a0_8, .int .i64 a0_9, .int .i64 0, .int .i64 0, .string a0_12, .string a0_13, .int .i64 a0_14, .bool false]] w fun e w' => e = .returned (.bool false) ∧ Below w.heap.size w w' := by
  have hu39 := Try.underlying39
  have hu32 := Try.underlying32
  have hu35 := Try.underlying35
  have hu37 := Try.underlying37
  have HU := Lib.hid (fun W => user_ax a0_3 true hu W)
  clear hu
  go_enter Try.func43, Try.ntmps43
  go_upto_region 1 with (fail)
  obtain ⟨B, hB⟩ : ∃ B, RowKit.Hid (B = w.heap.size) := ⟨_, Lib.hid rfl⟩
  obtain ⟨W1, hW1⟩ : ∃ W1, w.alloc (.cells #[.int .i64 a0_0, .int .i64 a0_1, .bool true, .string a0_3, .int .i64 0, .string (⟨#[]⟩ : ByteArray), .string (⟨#[]⟩ : ByteArray), .int .i64 0, .int .i64 a0_8, .int .i64 a0_9, .int .i64 0, .int .i64 0, .string a0_12, .string a0_13, .int .i64 a0_14, .bool false] 39) = W1 := ⟨_, rfl⟩
  have g1 : W1.heap[B]? = some (.cells #[.int .i64 a0_0, .int .i64 a0_1, .bool true, .string a0_3, .int .i64 0, .string (⟨#[]⟩ : ByteArray), .string (⟨#[]⟩ : ByteArray), .int .i64 0, .int .i64 a0_8, .int .i64 a0_9, .int .i64 0, .int .i64 0, .string a0_12, .string a0_13, .int .i64 a0_14, .bool false] 39 (0, 0)) := by rw [← hW1, hB.out]; exact heap_alloc_new w _
  have b1 : Below w.heap.size w W1 := by rw [← hW1]; exact (Below.refl _ _).alloc (Nat.le_refl _) _
  rw [hW1, ← hB.out]
  clear hW1
  obtain ⟨z0, z1, z2, z3, z4, z5, z6, z7, z8, z9, z10, z11, z12, z13, z14, z15⟩ := cells16 g1
  have G1 := Lib.hid (And.intro g1 b1)
  clear g1 b1
  go_wp2_with (first
    | (go_at_call 83; ((with_reducible refine (HU.out _).mono ?_)); rintro e w' ⟨rfl, ⟨nd, rfl⟩⟩)
    | (fail))
  go_ret
  exact ⟨by first | rfl | simp, by with_reducible first | exact G1.out.2 | exact pw_below_drewN G1.out.2 _ | exact pw_below_drewN (pw_below_drewN G1.out.2 _) _ | exact G1.out.2.alloc G1.out.2.size _ | exact pw_below_drewN (G1.out.2.alloc G1.out.2.size _) _⟩
set_option maxRecDepth 100000 in
theorem may_ev13 (a0_0 : Int) (a0_1 : Int) (a0_3 : ByteArray) (a0_8 : Int) (a0_9 : Int) (a0_13 : ByteArray) (a0_14 : Int) (w : World) (p0 : decide (a0_0 < 1) = false) (p1 : decide (a0_0 > 16) = false) (p2 : decide (a0_1 < 1) = false) (p3 : decide (a0_1 > 1152921504606846976) = false) (p8 : decide (a0_8 < 0) = false) (h9 : (a0_9 != -1) = true) (hl : decide (a0_9 ≤ a0_8) = false) (hu : usrB a0_3 = true) (h_a0_13 : a0_13.toList.isEmpty = false) :
    Calls Try.prog 43 #[.agg #[.int .i64 a0_0, .int .i64 a0_1, .bool true, .string a0_3, .int .i64 0, .string (⟨#[]⟩ : ByteArray), .string (⟨#[]⟩ : ByteArray), .int .i64 0, .int .i64 a0_8, .int .i64 a0_9, .int .i64 0, .int .i64 0, .string (⟨#[]⟩ : ByteArray), .string a0_13, .int .i64 a0_14, .bool false]] w fun e w' => e = .returned (.bool false) ∧ Below w.heap.size w w' := by
  have hu39 := Try.underlying39
  have hu32 := Try.underlying32
  have hu35 := Try.underlying35
  have hu37 := Try.underlying37
  have HU := Lib.hid (fun W => user_ax a0_3 true hu W)
  clear hu
  go_enter Try.func43, Try.ntmps43
  go_upto_region 1 with (fail)
  obtain ⟨B, hB⟩ : ∃ B, RowKit.Hid (B = w.heap.size) := ⟨_, Lib.hid rfl⟩
  obtain ⟨W1, hW1⟩ : ∃ W1, w.alloc (.cells #[.int .i64 a0_0, .int .i64 a0_1, .bool true, .string a0_3, .int .i64 0, .string (⟨#[]⟩ : ByteArray), .string (⟨#[]⟩ : ByteArray), .int .i64 0, .int .i64 a0_8, .int .i64 a0_9, .int .i64 0, .int .i64 0, .string (⟨#[]⟩ : ByteArray), .string a0_13, .int .i64 a0_14, .bool false] 39) = W1 := ⟨_, rfl⟩
  have g1 : W1.heap[B]? = some (.cells #[.int .i64 a0_0, .int .i64 a0_1, .bool true, .string a0_3, .int .i64 0, .string (⟨#[]⟩ : ByteArray), .string (⟨#[]⟩ : ByteArray), .int .i64 0, .int .i64 a0_8, .int .i64 a0_9, .int .i64 0, .int .i64 0, .string (⟨#[]⟩ : ByteArray), .string a0_13, .int .i64 a0_14, .bool false] 39 (0, 0)) := by rw [← hW1, hB.out]; exact heap_alloc_new w _
  have b1 : Below w.heap.size w W1 := by rw [← hW1]; exact (Below.refl _ _).alloc (Nat.le_refl _) _
  rw [hW1, ← hB.out]
  clear hW1
  obtain ⟨z0, z1, z2, z3, z4, z5, z6, z7, z8, z9, z10, z11, z12, z13, z14, z15⟩ := cells16 g1
  have G1 := Lib.hid (And.intro g1 b1)
  clear g1 b1
  go_wp2_with (first
    | (go_at_call 83; ((with_reducible refine (HU.out _).mono ?_)); rintro e w' ⟨rfl, ⟨nd, rfl⟩⟩)
    | (fail))
  go_ret
  exact ⟨by first | rfl | simp, by with_reducible first | exact G1.out.2 | exact pw_below_drewN G1.out.2 _ | exact pw_below_drewN (pw_below_drewN G1.out.2 _) _ | exact G1.out.2.alloc G1.out.2.size _ | exact pw_below_drewN (G1.out.2.alloc G1.out.2.size _) _⟩
set_option maxRecDepth 100000 in
theorem may_ev14 (a0_0 : Int) (a0_1 : Int) (a0_3 : ByteArray) (a0_8 : Int) (a0_9 : Int) (a0_14 : Int) (w : World) (p0 : decide (a0_0 < 1) = false) (p1 : decide (a0_0 > 16) = false) (p2 : decide (a0_1 < 1) = false) (p3 : decide (a0_1 > 1152921504606846976) = false) (p8 : decide (a0_8 < 0) = false) (h9 : (a0_9 != -1) = true) (hl : decide (a0_9 ≤ a0_8) = false) (hu : usrB a0_3 = true) (h_a0_14 : (a0_14 == 0) = false) :
    Calls Try.prog 43 #[.agg #[.int .i64 a0_0, .int .i64 a0_1, .bool true, .string a0_3, .int .i64 0, .string (⟨#[]⟩ : ByteArray), .string (⟨#[]⟩ : ByteArray), .int .i64 0, .int .i64 a0_8, .int .i64 a0_9, .int .i64 0, .int .i64 0, .string (⟨#[]⟩ : ByteArray), .string (⟨#[]⟩ : ByteArray), .int .i64 a0_14, .bool false]] w fun e w' => e = .returned (.bool false) ∧ Below w.heap.size w w' := by
  have hu39 := Try.underlying39
  have hu32 := Try.underlying32
  have hu35 := Try.underlying35
  have hu37 := Try.underlying37
  have HU := Lib.hid (fun W => user_ax a0_3 true hu W)
  clear hu
  go_enter Try.func43, Try.ntmps43
  go_upto_region 1 with (fail)
  obtain ⟨B, hB⟩ : ∃ B, RowKit.Hid (B = w.heap.size) := ⟨_, Lib.hid rfl⟩
  obtain ⟨W1, hW1⟩ : ∃ W1, w.alloc (.cells #[.int .i64 a0_0, .int .i64 a0_1, .bool true, .string a0_3, .int .i64 0, .string (⟨#[]⟩ : ByteArray), .string (⟨#[]⟩ : ByteArray), .int .i64 0, .int .i64 a0_8, .int .i64 a0_9, .int .i64 0, .int .i64 0, .string (⟨#[]⟩ : ByteArray), .string (⟨#[]⟩ : ByteArray), .int .i64 a0_14, .bool false] 39) = W1 := ⟨_, rfl⟩
  have g1 : W1.heap[B]? = some (.cells #[.int .i64 a0_0, .int .i64 a0_1, .bool true, .string a0_3, .int .i64 0, .string (⟨#[]⟩ : ByteArray), .string (⟨#[]⟩ : ByteArray), .int .i64 0, .int .i64 a0_8, .int .i64 a0_9, .int .i64 0, .int .i64 0, .string (⟨#[]⟩ : ByteArray), .string (⟨#[]⟩ : ByteArray), .int .i64 a0_14, .bool false] 39 (0, 0)) := by rw [← hW1, hB.out]; exact heap_alloc_new w _
  have b1 : Below w.heap.size w W1 := by rw [← hW1]; exact (Below.refl _ _).alloc (Nat.le_refl _) _
  rw [hW1, ← hB.out]
  clear hW1
  obtain ⟨z0, z1, z2, z3, z4, z5, z6, z7, z8, z9, z10, z11, z12, z13, z14, z15⟩ := cells16 g1
  have G1 := Lib.hid (And.intro g1 b1)
  clear g1 b1
  go_wp2_with (first
    | (go_at_call 83; ((with_reducible refine (HU.out _).mono ?_)); rintro e w' ⟨rfl, ⟨nd, rfl⟩⟩)
    | (fail))
  go_ret
  exact ⟨by first | rfl | simp, by with_reducible first | exact G1.out.2 | exact pw_below_drewN G1.out.2 _ | exact pw_below_drewN (pw_below_drewN G1.out.2 _) _ | exact G1.out.2.alloc G1.out.2.size _ | exact pw_below_drewN (G1.out.2.alloc G1.out.2.size _) _⟩
set_option maxRecDepth 100000 in
theorem may_evz (a0_0 : Int) (a0_1 : Int) (a0_3 : ByteArray) (a0_8 : Int) (a0_9 : Int) (w : World) (p0 : decide (a0_0 < 1) = false) (p1 : decide (a0_0 > 16) = false) (p2 : decide (a0_1 < 1) = false) (p3 : decide (a0_1 > 1152921504606846976) = false) (p8 : decide (a0_8 < 0) = false) (h9 : (a0_9 != -1) = true) (hl : decide (a0_9 ≤ a0_8) = false) (hu : usrB a0_3 = true) :
    Calls Try.prog 43 #[.agg #[.int .i64 a0_0, .int .i64 a0_1, .bool true, .string a0_3, .int .i64 0, .string (⟨#[]⟩ : ByteArray), .string (⟨#[]⟩ : ByteArray), .int .i64 0, .int .i64 a0_8, .int .i64 a0_9, .int .i64 0, .int .i64 0, .string (⟨#[]⟩ : ByteArray), .string (⟨#[]⟩ : ByteArray), .int .i64 0, .bool false]] w fun e w' => e = .returned (.bool true) ∧ Below w.heap.size w w' := by
  have hu39 := Try.underlying39
  have hu32 := Try.underlying32
  have hu35 := Try.underlying35
  have hu37 := Try.underlying37
  have HU := Lib.hid (fun W => user_ax a0_3 true hu W)
  clear hu
  go_enter Try.func43, Try.ntmps43
  go_upto_region 1 with (fail)
  obtain ⟨B, hB⟩ : ∃ B, RowKit.Hid (B = w.heap.size) := ⟨_, Lib.hid rfl⟩
  obtain ⟨W1, hW1⟩ : ∃ W1, w.alloc (.cells #[.int .i64 a0_0, .int .i64 a0_1, .bool true, .string a0_3, .int .i64 0, .string (⟨#[]⟩ : ByteArray), .string (⟨#[]⟩ : ByteArray), .int .i64 0, .int .i64 a0_8, .int .i64 a0_9, .int .i64 0, .int .i64 0, .string (⟨#[]⟩ : ByteArray), .string (⟨#[]⟩ : ByteArray), .int .i64 0, .bool false] 39) = W1 := ⟨_, rfl⟩
  have g1 : W1.heap[B]? = some (.cells #[.int .i64 a0_0, .int .i64 a0_1, .bool true, .string a0_3, .int .i64 0, .string (⟨#[]⟩ : ByteArray), .string (⟨#[]⟩ : ByteArray), .int .i64 0, .int .i64 a0_8, .int .i64 a0_9, .int .i64 0, .int .i64 0, .string (⟨#[]⟩ : ByteArray), .string (⟨#[]⟩ : ByteArray), .int .i64 0, .bool false] 39 (0, 0)) := by rw [← hW1, hB.out]; exact heap_alloc_new w _
  have b1 : Below w.heap.size w W1 := by rw [← hW1]; exact (Below.refl _ _).alloc (Nat.le_refl _) _
  rw [hW1, ← hB.out]
  clear hW1
  obtain ⟨z0, z1, z2, z3, z4, z5, z6, z7, z8, z9, z10, z11, z12, z13, z14, z15⟩ := cells16 g1
  have G1 := Lib.hid (And.intro g1 b1)
  clear g1 b1
  go_wp2_with (first
    | (go_at_call 83; ((with_reducible refine (HU.out _).mono ?_)); rintro e w' ⟨rfl, ⟨nd, rfl⟩⟩)
    | (fail))
  go_ret
  exact ⟨by first | rfl | simp, by with_reducible first | exact G1.out.2 | exact pw_below_drewN G1.out.2 _ | exact pw_below_drewN (pw_below_drewN G1.out.2 _) _ | exact G1.out.2.alloc G1.out.2.size _ | exact pw_below_drewN (G1.out.2.alloc G1.out.2.size _) _⟩
theorem may_any (a0_0 : Int) (a0_1 : Int) (a0_2 : Bool) (a0_3 : ByteArray) (a0_4 : Int) (a0_5 : ByteArray) (a0_6 : ByteArray) (a0_7 : Int) (a0_8 : Int) (a0_9 : Int) (a0_10 : Int) (a0_11 : Int) (a0_12 : ByteArray) (a0_13 : ByteArray) (a0_14 : Int) (a0_15 : Bool) (w : World) :
    Calls Try.prog 43 #[.agg #[.int .i64 a0_0, .int .i64 a0_1, .bool a0_2, .string a0_3, .int .i64 a0_4, .string a0_5, .string a0_6, .int .i64 a0_7, .int .i64 a0_8, .int .i64 a0_9, .int .i64 a0_10, .int .i64 a0_11, .string a0_12, .string a0_13, .int .i64 a0_14, .bool a0_15]] w fun e w' => e = .returned (.bool (mayB16 a0_0 a0_1 a0_2 a0_3 a0_4 a0_5 a0_6 a0_7 a0_8 a0_9 a0_10 a0_11 a0_12 a0_13 a0_14 a0_15)) ∧ Below w.heap.size w w' := by
  obtain ⟨r, h2, hd⟩ := dr_any a0_4 a0_5 a0_6 a0_7
  have hq := fun W => hawserref26_rightResult.calls a0_4 a0_5 a0_6 a0_7 a0_10 a0_11 _ W (res2 a0_4 a0_5 a0_6 a0_7 a0_10 a0_11)
  have hrow := fun W => hawserref26_rightRow.calls a0_12 a0_13 a0_14 a0_3 _ W (row2 a0_3 a0_12 a0_13 a0_14)
  cases p0 : decide (a0_0 < 1) with
  | false =>
    cases p1 : decide (a0_0 > 16) with
    | false =>
      cases p2 : decide (a0_1 < 1) with
      | false =>
        cases p3 : decide (a0_1 > 1152921504606846976) with
        | false =>
          cases p8 : decide (a0_8 < 0) with
          | false =>
            by_cases c_a0_9 : a0_9 = (-1)
            · subst c_a0_9
              cases a0_2 with
              | false =>
                by_cases hr : r = 0
                · subst hr
                  have ho := h2.1 rfl
                  have hd0 := hd
                  cases hk : (a0_3.toList == a0_5.toList) with
                  | false =>
                    exact (may_zk _ _ _ _ _ _ _ _ _ _ _ _ _ _ w p0 p1 p2 p3 p8 hd0 hk).mono fun e w' h => ⟨h.1.trans (ret_b (by simp [mayB16, readB, updB, opZ, resZ, rowZ, e0_nil, rowB, p8, ho, hk, wi_tests p0 p1, wi_tests p2 p3])), h.2⟩
                  | true =>
                    cases a0_15 with
                    | false =>
                      by_cases c_a0_12 : a0_12.toList = ([] : List UInt8)
                      · obtain rfl : a0_12 = ⟨#[]⟩ := str_nil c_a0_12
                        clear c_a0_12
                        by_cases c_a0_13 : a0_13.toList = ([] : List UInt8)
                        · obtain rfl : a0_13 = ⟨#[]⟩ := str_nil c_a0_13
                          clear c_a0_13
                          by_cases c_a0_14 : a0_14 = 0
                          · subst c_a0_14
                            by_cases c_a0_10 : a0_10 = 0
                            · subst c_a0_10
                              by_cases c_a0_11 : a0_11 = 0
                              · subst c_a0_11
                                exact (may_znz _ _ _ _ _ _ _ _ w p0 p1 p2 p3 p8 hd0 hk).mono fun e w' h => ⟨h.1.trans (ret_b (by simp [mayB16, readB, updB, opZ, resZ, rowZ, e0_nil, rowB, p8, ho, hk, wi_tests p0 p1, wi_tests p2 p3])), h.2⟩
                              · exact (may_zn11 _ _ _ _ _ _ _ _ _ w p0 p1 p2 p3 p8 hd0 hk (by simpa using c_a0_11)).mono fun e w' h => ⟨h.1.trans (ret_b (by simp [mayB16, readB, updB, opZ, resZ, rowZ, e0_nil, rowB, p8, ho, hk, c_a0_11, wi_tests p0 p1, wi_tests p2 p3])), h.2⟩
                            · exact (may_zn10 _ _ _ _ _ _ _ _ _ _ w p0 p1 p2 p3 p8 hd0 hk (by simpa using c_a0_10)).mono fun e w' h => ⟨h.1.trans (ret_b (by simp [mayB16, readB, updB, opZ, resZ, rowZ, e0_nil, rowB, p8, ho, hk, c_a0_10, wi_tests p0 p1, wi_tests p2 p3])), h.2⟩
                          · exact (may_zw14 _ _ _ _ _ _ _ _ _ _ _ w p0 p1 p2 p3 p8 hd0 hk (by simpa using c_a0_14)).mono fun e w' h => ⟨h.1.trans (ret_b (by simp [mayB16, readB, updB, opZ, resZ, rowZ, e0_nil, rowB, p8, ho, hk, c_a0_14, wi_tests p0 p1, wi_tests p2 p3])), h.2⟩
                        · exact (may_zw13 _ _ _ _ _ _ _ _ _ _ _ _ w p0 p1 p2 p3 p8 hd0 hk (by simpa using c_a0_13)).mono fun e w' h => ⟨h.1.trans (ret_b (by simp [mayB16, readB, updB, opZ, resZ, rowZ, e0_nil, rowB, p8, ho, hk, c_a0_13, wi_tests p0 p1, wi_tests p2 p3])), h.2⟩
                      · exact (may_zw12 _ _ _ _ _ _ _ _ _ _ _ _ _ w p0 p1 p2 p3 p8 hd0 hk (by simpa using c_a0_12)).mono fun e w' h => ⟨h.1.trans (ret_b (by simp [mayB16, readB, updB, opZ, resZ, rowZ, e0_nil, rowB, p8, ho, hk, c_a0_12, wi_tests p0 p1, wi_tests p2 p3])), h.2⟩
                    | true =>
                      exact (may_zf _ _ _ _ _ _ _ _ _ _ _ _ _ w p0 p1 p2 p3 p8 hd0 hk).mono fun e w' h => ⟨h.1.trans (ret_b (by simp [mayB16, readB, updB, opZ, resZ, rowZ, e0_nil, rowB, p8, ho, hk, wi_tests p0 p1, wi_tests p2 p3])), h.2⟩
                · have ho : opB a0_4 a0_5 a0_6 a0_7 = false := by rw [Bool.eq_false_iff]; exact fun h => hr (h2.2 h)
                  exact (may_zd _ _ _ _ _ _ _ _ _ _ _ _ _ _ w p0 p1 p2 p3 p8 r hd (by simpa using hr)).mono fun e w' h => ⟨h.1.trans (ret_b (by simp [mayB16, readB, updB, opZ, resZ, rowZ, e0_nil, rowB, p8, ho, wi_tests p0 p1, wi_tests p2 p3])), h.2⟩
              | true =>
                cases hu : usrB a0_3 with
                | false =>
                  exact (may_zu _ _ _ _ _ _ _ _ _ _ _ _ _ _ w p0 p1 p2 p3 p8 hu).mono fun e w' h => ⟨h.1.trans (ret_b (by simp [mayB16, readB, updB, opZ, resZ, rowZ, e0_nil, rowB, p8, hu, wi_tests p0 p1, wi_tests p2 p3])), h.2⟩
                | true =>
                  by_cases c_a0_4 : a0_4 = 0
                  · subst c_a0_4
                    by_cases c_a0_5 : a0_5.toList = ([] : List UInt8)
                    · obtain rfl : a0_5 = ⟨#[]⟩ := str_nil c_a0_5
                      clear c_a0_5
                      by_cases c_a0_6 : a0_6.toList = ([] : List UInt8)
                      · obtain rfl : a0_6 = ⟨#[]⟩ := str_nil c_a0_6
                        clear c_a0_6
                        by_cases c_a0_7 : a0_7 = 0
                        · subst c_a0_7
                          by_cases c_a0_10 : a0_10 = 0
                          · subst c_a0_10
                            by_cases c_a0_11 : a0_11 = 0
                            · subst c_a0_11
                              cases a0_15 with
                              | false =>
                                by_cases c_a0_12 : a0_12.toList = ([] : List UInt8)
                                · obtain rfl : a0_12 = ⟨#[]⟩ := str_nil c_a0_12
                                  clear c_a0_12
                                  by_cases c_a0_13 : a0_13.toList = ([] : List UInt8)
                                  · obtain rfl : a0_13 = ⟨#[]⟩ := str_nil c_a0_13
                                    clear c_a0_13
                                    by_cases c_a0_14 : a0_14 = 0
                                    · subst c_a0_14
                                      exact (may_zvz _ _ _ _ w p0 p1 p2 p3 p8 hu).mono fun e w' h => ⟨h.1.trans (ret_b (by simp [mayB16, readB, updB, opZ, resZ, rowZ, e0_nil, rowB, p8, hu, wi_tests p0 p1, wi_tests p2 p3])), h.2⟩
                                    · exact (may_zv14 _ _ _ _ _ w p0 p1 p2 p3 p8 hu (by simpa using c_a0_14)).mono fun e w' h => ⟨h.1.trans (ret_b (by simp [mayB16, readB, updB, opZ, resZ, rowZ, e0_nil, rowB, p8, hu, c_a0_14, wi_tests p0 p1, wi_tests p2 p3])), h.2⟩
                                  · exact (may_zv13 _ _ _ _ _ _ w p0 p1 p2 p3 p8 hu (by simpa using c_a0_13)).mono fun e w' h => ⟨h.1.trans (ret_b (by simp [mayB16, readB, updB, opZ, resZ, rowZ, e0_nil, rowB, p8, hu, c_a0_13, wi_tests p0 p1, wi_tests p2 p3])), h.2⟩
                                · exact (may_zv12 _ _ _ _ _ _ _ w p0 p1 p2 p3 p8 hu (by simpa using c_a0_12)).mono fun e w' h => ⟨h.1.trans (ret_b (by simp [mayB16, readB, updB, opZ, resZ, rowZ, e0_nil, rowB, p8, hu, c_a0_12, wi_tests p0 p1, wi_tests p2 p3])), h.2⟩
                              | true =>
                                exact (may_zg _ _ _ _ _ _ _ w p0 p1 p2 p3 p8 hu).mono fun e w' h => ⟨h.1.trans (ret_b (by simp [mayB16, readB, updB, opZ, resZ, rowZ, e0_nil, rowB, p8, hu, wi_tests p0 p1, wi_tests p2 p3])), h.2⟩
                            · exact (may_zo11 _ _ _ _ _ _ _ _ _ w p0 p1 p2 p3 p8 hu (by simpa using c_a0_11)).mono fun e w' h => ⟨h.1.trans (ret_b (by simp [mayB16, readB, updB, opZ, resZ, rowZ, e0_nil, rowB, p8, hu, c_a0_11, wi_tests p0 p1, wi_tests p2 p3])), h.2⟩
                          · exact (may_zo10 _ _ _ _ _ _ _ _ _ _ w p0 p1 p2 p3 p8 hu (by simpa using c_a0_10)).mono fun e w' h => ⟨h.1.trans (ret_b (by simp [mayB16, readB, updB, opZ, resZ, rowZ, e0_nil, rowB, p8, hu, c_a0_10, wi_tests p0 p1, wi_tests p2 p3])), h.2⟩
                        · exact (may_zo7 _ _ _ _ _ _ _ _ _ _ _ w p0 p1 p2 p3 p8 hu (by simpa using c_a0_7)).mono fun e w' h => ⟨h.1.trans (ret_b (by simp [mayB16, readB, updB, opZ, resZ, rowZ, e0_nil, rowB, p8, hu, c_a0_7, wi_tests p0 p1, wi_tests p2 p3])), h.2⟩
                      · exact (may_zo6 _ _ _ _ _ _ _ _ _ _ _ _ w p0 p1 p2 p3 p8 hu (by simpa using c_a0_6)).mono fun e w' h => ⟨h.1.trans (ret_b (by simp [mayB16, readB, updB, opZ, resZ, rowZ, e0_nil, rowB, p8, hu, c_a0_6, wi_tests p0 p1, wi_tests p2 p3])), h.2⟩
                    · exact (may_zo5 _ _ _ _ _ _ _ _ _ _ _ _ _ w p0 p1 p2 p3 p8 hu (by simpa using c_a0_5)).mono fun e w' h => ⟨h.1.trans (ret_b (by simp [mayB16, readB, updB, opZ, resZ, rowZ, e0_nil, rowB, p8, hu, c_a0_5, wi_tests p0 p1, wi_tests p2 p3])), h.2⟩
                  · exact (may_zo4 _ _ _ _ _ _ _ _ _ _ _ _ _ _ w p0 p1 p2 p3 p8 hu (by simpa using c_a0_4)).mono fun e w' h => ⟨h.1.trans (ret_b (by simp [mayB16, readB, updB, opZ, resZ, rowZ, e0_nil, rowB, p8, hu, c_a0_4, wi_tests p0 p1, wi_tests p2 p3])), h.2⟩
            · cases hl : decide (a0_9 ≤ a0_8) with
              | false =>
                cases a0_2 with
                | false =>
                  by_cases hr : r = 0
                  · subst hr
                    have ho := h2.1 rfl
                    have hd0 := hd
                    cases hk : (a0_3.toList == a0_5.toList) with
                    | false =>
                      exact (may_ek _ _ _ _ _ _ _ _ _ _ _ _ _ _ _ w p0 p1 p2 p3 p8 (by simpa using c_a0_9) hl hd0 hk).mono fun e w' h => ⟨h.1.trans (ret_b (by simp [mayB16, readB, updB, opZ, resZ, rowZ, e0_nil, rowB, p8, c_a0_9, hl, ho, hk, wi_tests p0 p1, wi_tests p2 p3])), h.2⟩
                    | true =>
                      cases a0_15 with
                      | false =>
                        by_cases c_a0_12 : a0_12.toList = ([] : List UInt8)
                        · obtain rfl : a0_12 = ⟨#[]⟩ := str_nil c_a0_12
                          clear c_a0_12
                          by_cases c_a0_13 : a0_13.toList = ([] : List UInt8)
                          · obtain rfl : a0_13 = ⟨#[]⟩ := str_nil c_a0_13
                            clear c_a0_13
                            by_cases c_a0_14 : a0_14 = 0
                            · subst c_a0_14
                              exact (may_ee _ _ _ _ _ _ _ _ _ _ _ w p0 p1 p2 p3 p8 (by simpa using c_a0_9) hl hd0 hk _ hq).mono fun e w' h => ⟨h.1.trans (ret_b (by simp [mayB16, readB, updB, opZ, resZ, rowZ, e0_nil, rowB, p8, c_a0_9, hl, ho, hk, wi_tests p0 p1, wi_tests p2 p3])), h.2⟩
                            · exact (may_ew14 _ _ _ _ _ _ _ _ _ _ _ _ w p0 p1 p2 p3 p8 (by simpa using c_a0_9) hl hd0 hk (by simpa using c_a0_14)).mono fun e w' h => ⟨h.1.trans (ret_b (by simp [mayB16, readB, updB, opZ, resZ, rowZ, e0_nil, rowB, p8, c_a0_9, hl, ho, hk, c_a0_14, wi_tests p0 p1, wi_tests p2 p3])), h.2⟩
                          · exact (may_ew13 _ _ _ _ _ _ _ _ _ _ _ _ _ w p0 p1 p2 p3 p8 (by simpa using c_a0_9) hl hd0 hk (by simpa using c_a0_13)).mono fun e w' h => ⟨h.1.trans (ret_b (by simp [mayB16, readB, updB, opZ, resZ, rowZ, e0_nil, rowB, p8, c_a0_9, hl, ho, hk, c_a0_13, wi_tests p0 p1, wi_tests p2 p3])), h.2⟩
                        · exact (may_ew12 _ _ _ _ _ _ _ _ _ _ _ _ _ _ w p0 p1 p2 p3 p8 (by simpa using c_a0_9) hl hd0 hk (by simpa using c_a0_12)).mono fun e w' h => ⟨h.1.trans (ret_b (by simp [mayB16, readB, updB, opZ, resZ, rowZ, e0_nil, rowB, p8, c_a0_9, hl, ho, hk, c_a0_12, wi_tests p0 p1, wi_tests p2 p3])), h.2⟩
                      | true =>
                        exact (may_ef _ _ _ _ _ _ _ _ _ _ _ _ _ _ w p0 p1 p2 p3 p8 (by simpa using c_a0_9) hl hd0 hk).mono fun e w' h => ⟨h.1.trans (ret_b (by simp [mayB16, readB, updB, opZ, resZ, rowZ, e0_nil, rowB, p8, c_a0_9, hl, ho, hk, wi_tests p0 p1, wi_tests p2 p3])), h.2⟩
                  · have ho : opB a0_4 a0_5 a0_6 a0_7 = false := by rw [Bool.eq_false_iff]; exact fun h => hr (h2.2 h)
                    exact (may_ed _ _ _ _ _ _ _ _ _ _ _ _ _ _ _ w p0 p1 p2 p3 p8 (by simpa using c_a0_9) hl r hd (by simpa using hr)).mono fun e w' h => ⟨h.1.trans (ret_b (by simp [mayB16, readB, updB, opZ, resZ, rowZ, e0_nil, rowB, p8, c_a0_9, hl, ho, wi_tests p0 p1, wi_tests p2 p3])), h.2⟩
                | true =>
                  cases hu : usrB a0_3 with
                  | false =>
                    exact (may_eu _ _ _ _ _ _ _ _ _ _ _ _ _ _ _ w p0 p1 p2 p3 p8 (by simpa using c_a0_9) hl hu).mono fun e w' h => ⟨h.1.trans (ret_b (by simp [mayB16, readB, updB, opZ, resZ, rowZ, e0_nil, rowB, p8, c_a0_9, hl, hu, wi_tests p0 p1, wi_tests p2 p3])), h.2⟩
                  | true =>
                    by_cases c_a0_4 : a0_4 = 0
                    · subst c_a0_4
                      by_cases c_a0_5 : a0_5.toList = ([] : List UInt8)
                      · obtain rfl : a0_5 = ⟨#[]⟩ := str_nil c_a0_5
                        clear c_a0_5
                        by_cases c_a0_6 : a0_6.toList = ([] : List UInt8)
                        · obtain rfl : a0_6 = ⟨#[]⟩ := str_nil c_a0_6
                          clear c_a0_6
                          by_cases c_a0_7 : a0_7 = 0
                          · subst c_a0_7
                            by_cases c_a0_10 : a0_10 = 0
                            · subst c_a0_10
                              by_cases c_a0_11 : a0_11 = 0
                              · subst c_a0_11
                                cases a0_15 with
                                | false =>
                                  by_cases c_a0_12 : a0_12.toList = ([] : List UInt8)
                                  · obtain rfl : a0_12 = ⟨#[]⟩ := str_nil c_a0_12
                                    clear c_a0_12
                                    by_cases c_a0_13 : a0_13.toList = ([] : List UInt8)
                                    · obtain rfl : a0_13 = ⟨#[]⟩ := str_nil c_a0_13
                                      clear c_a0_13
                                      by_cases c_a0_14 : a0_14 = 0
                                      · subst c_a0_14
                                        exact (may_evz _ _ _ _ _ w p0 p1 p2 p3 p8 (by simpa using c_a0_9) hl hu).mono fun e w' h => ⟨h.1.trans (ret_b (by simp [mayB16, readB, updB, opZ, resZ, rowZ, e0_nil, rowB, p8, c_a0_9, hl, hu, wi_tests p0 p1, wi_tests p2 p3])), h.2⟩
                                      · exact (may_ev14 _ _ _ _ _ _ w p0 p1 p2 p3 p8 (by simpa using c_a0_9) hl hu (by simpa using c_a0_14)).mono fun e w' h => ⟨h.1.trans (ret_b (by simp [mayB16, readB, updB, opZ, resZ, rowZ, e0_nil, rowB, p8, c_a0_9, hl, hu, c_a0_14, wi_tests p0 p1, wi_tests p2 p3])), h.2⟩
                                    · exact (may_ev13 _ _ _ _ _ _ _ w p0 p1 p2 p3 p8 (by simpa using c_a0_9) hl hu (by simpa using c_a0_13)).mono fun e w' h => ⟨h.1.trans (ret_b (by simp [mayB16, readB, updB, opZ, resZ, rowZ, e0_nil, rowB, p8, c_a0_9, hl, hu, c_a0_13, wi_tests p0 p1, wi_tests p2 p3])), h.2⟩
                                  · exact (may_ev12 _ _ _ _ _ _ _ _ w p0 p1 p2 p3 p8 (by simpa using c_a0_9) hl hu (by simpa using c_a0_12)).mono fun e w' h => ⟨h.1.trans (ret_b (by simp [mayB16, readB, updB, opZ, resZ, rowZ, e0_nil, rowB, p8, c_a0_9, hl, hu, c_a0_12, wi_tests p0 p1, wi_tests p2 p3])), h.2⟩
                                | true =>
                                  exact (may_er _ _ _ _ _ _ _ _ w p0 p1 p2 p3 p8 (by simpa using c_a0_9) hl hu _ hrow).mono fun e w' h => ⟨h.1.trans (ret_b (by simp [mayB16, readB, updB, opZ, resZ, rowZ, e0_nil, rowB, p8, c_a0_9, hl, hu, wi_tests p0 p1, wi_tests p2 p3])), h.2⟩
                              · exact (may_eo11 _ _ _ _ _ _ _ _ _ _ w p0 p1 p2 p3 p8 (by simpa using c_a0_9) hl hu (by simpa using c_a0_11)).mono fun e w' h => ⟨h.1.trans (ret_b (by simp [mayB16, readB, updB, opZ, resZ, rowZ, e0_nil, rowB, p8, c_a0_9, hl, hu, c_a0_11, wi_tests p0 p1, wi_tests p2 p3])), h.2⟩
                            · exact (may_eo10 _ _ _ _ _ _ _ _ _ _ _ w p0 p1 p2 p3 p8 (by simpa using c_a0_9) hl hu (by simpa using c_a0_10)).mono fun e w' h => ⟨h.1.trans (ret_b (by simp [mayB16, readB, updB, opZ, resZ, rowZ, e0_nil, rowB, p8, c_a0_9, hl, hu, c_a0_10, wi_tests p0 p1, wi_tests p2 p3])), h.2⟩
                          · exact (may_eo7 _ _ _ _ _ _ _ _ _ _ _ _ w p0 p1 p2 p3 p8 (by simpa using c_a0_9) hl hu (by simpa using c_a0_7)).mono fun e w' h => ⟨h.1.trans (ret_b (by simp [mayB16, readB, updB, opZ, resZ, rowZ, e0_nil, rowB, p8, c_a0_9, hl, hu, c_a0_7, wi_tests p0 p1, wi_tests p2 p3])), h.2⟩
                        · exact (may_eo6 _ _ _ _ _ _ _ _ _ _ _ _ _ w p0 p1 p2 p3 p8 (by simpa using c_a0_9) hl hu (by simpa using c_a0_6)).mono fun e w' h => ⟨h.1.trans (ret_b (by simp [mayB16, readB, updB, opZ, resZ, rowZ, e0_nil, rowB, p8, c_a0_9, hl, hu, c_a0_6, wi_tests p0 p1, wi_tests p2 p3])), h.2⟩
                      · exact (may_eo5 _ _ _ _ _ _ _ _ _ _ _ _ _ _ w p0 p1 p2 p3 p8 (by simpa using c_a0_9) hl hu (by simpa using c_a0_5)).mono fun e w' h => ⟨h.1.trans (ret_b (by simp [mayB16, readB, updB, opZ, resZ, rowZ, e0_nil, rowB, p8, c_a0_9, hl, hu, c_a0_5, wi_tests p0 p1, wi_tests p2 p3])), h.2⟩
                    · exact (may_eo4 _ _ _ _ _ _ _ _ _ _ _ _ _ _ _ w p0 p1 p2 p3 p8 (by simpa using c_a0_9) hl hu (by simpa using c_a0_4)).mono fun e w' h => ⟨h.1.trans (ret_b (by simp [mayB16, readB, updB, opZ, resZ, rowZ, e0_nil, rowB, p8, c_a0_9, hl, hu, c_a0_4, wi_tests p0 p1, wi_tests p2 p3])), h.2⟩
              | true =>
                exact (may_l _ _ _ _ _ _ _ _ _ _ _ _ _ _ _ _ w p0 p1 p2 p3 p8 (by simpa using c_a0_9) hl).mono fun e w' h => ⟨h.1.trans (ret_b (by simp [mayB16, readB, updB, opZ, resZ, rowZ, e0_nil, rowB, p8, c_a0_9, hl, wi_tests p0 p1, wi_tests p2 p3])), h.2⟩
          | true =>
            exact (may_p8 _ _ _ _ _ _ _ _ _ _ _ _ _ _ _ _ w p0 p1 p2 p3 p8).mono fun e w' h => ⟨h.1.trans (ret_b (by simp [mayB16, readB, updB, opZ, resZ, rowZ, e0_nil, rowB, p8, wi_tests p0 p1, wi_tests p2 p3])), h.2⟩
        | true =>
          exact (may_p3 _ _ _ _ _ _ _ _ _ _ _ _ _ _ _ _ w p0 p1 p2 p3).mono fun e w' h => ⟨h.1.trans (ret_b (by simp [mayB16, readB, updB, opZ, resZ, rowZ, e0_nil, rowB, wi_tests p0 p1, wi_hi p3])), h.2⟩
      | true =>
        exact (may_p2 _ _ _ _ _ _ _ _ _ _ _ _ _ _ _ _ w p0 p1 p2).mono fun e w' h => ⟨h.1.trans (ret_b (by simp [mayB16, readB, updB, opZ, resZ, rowZ, e0_nil, rowB, wi_tests p0 p1, wi_lo p2])), h.2⟩
    | true =>
      exact (may_p1 _ _ _ _ _ _ _ _ _ _ _ _ _ _ _ _ w p0 p1).mono fun e w' h => ⟨h.1.trans (ret_b (by simp [mayB16, readB, updB, opZ, resZ, rowZ, e0_nil, rowB, wi_hi p1])), h.2⟩
  | true =>
    exact (may_p0 _ _ _ _ _ _ _ _ _ _ _ _ _ _ _ _ w p0).mono fun e w' h => ⟨h.1.trans (ret_b (by simp [mayB16, readB, updB, opZ, resZ, rowZ, e0_nil, rowB, wi_lo p0])), h.2⟩
end Go.Proofs.Ytbakmkoppieelaa.PLinearChecks

/- What is proved: contracts of the functions that the law uses, each under the conditions that its theorem states. Written by a program of this session: texts of the kit's print, and texts by hand for the functions that the print does not take. -/
import Derived.Test.YtbakmkoppieelaaPLinearChecksx0
import Derived.Test.YtbakmkoppieelaaPLinearChecksx2
import Derived.Test.YtbakmkoppieelaaPLinearChecksx3
namespace Go.Proofs.Ytbakmkoppieelaa.PLinearChecks
open Go.RowKit Go.Proofs.YtbakmkoppieelaaW.PrintWords Go.Proofs.YtbakmkoppieelaaW.PrintLast Go.Proofs.YtbakmkoppieelaaW.PrintMore
attribute [local go_sem] max2_int min2_int max_two min_two max_three min_three max_four min_four   -- for this text's walks alone
set_option linter.unusedVariables false
set_option linter.unusedSimpArgs false

/-! ### linear_updateMay: function 79 -/
def resB (kd ver code rv : Int) : Bool := if code = 1 then wiB rv 1 1152921504606846976 else if code = 2 then (kd == 2 && rv == 0) else if code = 3 then (kd == 3 && wiB rv 0 1152921504606846976 && rv != ver) else if code = 4 then ((kd == 1 || (kd == 3 && ver == 0)) && rv == 0) else false
theorem res1 (kd : Int) (key value : ByteArray) (ver code rv : Int) : linear_resultMay.f kd key value ver code rv = some (resB kd ver code rv) := by
  unfold linear_resultMay.f resB
  simp only [wi1, Option.bind_some]
  by_cases c1 : code = 1
  · simp [c1]
  by_cases c2 : code = 2
  · by_cases k2 : kd = 2 <;> simp [c2, k2]
  by_cases c3 : code = 3
  · by_cases k3 : kd = 3
    · cases hw : wiB rv 0 1152921504606846976 <;> simp [c3, k3]
    · simp [c3, k3]
  by_cases c4 : code = 4
  · by_cases k1 : kd = 1
    · simp [c4, k1]
    by_cases k3 : kd = 3
    · by_cases v : ver = 0 <;> simp [c4, k3, v]
    · simp [c4, k1, k3]
  · simp [c1, c2, c3, c4]
def updB (k : ByteArray) (o0 : Int) (o1 o2 : ByteArray) (o3 e r0 r1 : Int) (w0 w1 : ByteArray) (w2 : Int) (f : Bool) : Bool := opB o0 o1 o2 o3 && (k.toList == o1.toList && (!f && (rowZ w0 w1 w2 && (if e != -1 then resB o0 o3 r0 r1 else resZ r0 r1))))
set_option maxRecDepth 100000 in
theorem upd_d (a0_0 : Int) (a0_1 : Int) (a0_2 : Bool) (a0_3 : ByteArray) (a0_4 : Int) (a0_5 : ByteArray) (a0_6 : ByteArray) (a0_7 : Int) (a0_8 : Int) (a0_9 : Int) (a0_10 : Int) (a0_11 : Int) (a0_12 : ByteArray) (a0_13 : ByteArray) (a0_14 : Int) (a0_15 : Bool) (w : World) (r : Int) (hd : ∀ W, Calls Try.prog 86 #[.agg #[.int .i64 a0_4, .string a0_5, .string a0_6, .int .i64 a0_7]] W fun e w' => e = .returned (.int .i64 r) ∧ Below W.heap.size W w') (hr : (r != 0) = true) :
    Calls Try.prog 79 #[.agg #[.int .i64 a0_0, .int .i64 a0_1, .bool a0_2, .string a0_3, .int .i64 a0_4, .string a0_5, .string a0_6, .int .i64 a0_7, .int .i64 a0_8, .int .i64 a0_9, .int .i64 a0_10, .int .i64 a0_11, .string a0_12, .string a0_13, .int .i64 a0_14, .bool a0_15]] w fun e w' => e = .returned (.bool false) ∧ Below w.heap.size w w' := by
  have hu39 := Try.underlying39
  have hu32 := Try.underlying32
  have hu35 := Try.underlying35
  have hu37 := Try.underlying37
  have HD := Lib.hid hd
  clear hd
  go_enter Try.func79, Try.ntmps79
  go_upto_region 1 with (fail)
  obtain ⟨B, hB⟩ : ∃ B, RowKit.Hid (B = w.heap.size) := ⟨_, Lib.hid rfl⟩
  obtain ⟨W1, hW1⟩ : ∃ W1, w.alloc (.cells #[.int .i64 a0_0, .int .i64 a0_1, .bool a0_2, .string a0_3, .int .i64 a0_4, .string a0_5, .string a0_6, .int .i64 a0_7, .int .i64 a0_8, .int .i64 a0_9, .int .i64 a0_10, .int .i64 a0_11, .string a0_12, .string a0_13, .int .i64 a0_14, .bool a0_15] 39) = W1 := ⟨_, rfl⟩
  have g1 : W1.heap[B]? = some (.cells #[.int .i64 a0_0, .int .i64 a0_1, .bool a0_2, .string a0_3, .int .i64 a0_4, .string a0_5, .string a0_6, .int .i64 a0_7, .int .i64 a0_8, .int .i64 a0_9, .int .i64 a0_10, .int .i64 a0_11, .string a0_12, .string a0_13, .int .i64 a0_14, .bool a0_15] 39 (0, 0)) := by rw [← hW1, hB.out]; exact heap_alloc_new w _
  have b1 : Below w.heap.size w W1 := by rw [← hW1]; exact (Below.refl _ _).alloc (Nat.le_refl _) _
  rw [hW1, ← hB.out]
  clear hW1
  obtain ⟨z0, z1, z2, z3, z4, z5, z6, z7, z8, z9, z10, z11, z12, z13, z14, z15⟩ := cells16 g1
  have G1 := Lib.hid (And.intro g1 b1)
  clear g1 b1
  go_wp2_with (first
    | (go_at_call 86; refine (HD.out _).mono ?_; rintro e w2 ⟨rfl, hb1⟩; have g2 := blk_below (by first | exact G1.out.1 | exact blk_drewN G1.out.1 _) hb1; have b2 : Below w.heap.size w w2 := (by first | exact G1.out.2 | exact pw_below_drewN G1.out.2 _ : Below w.heap.size w _).trans (hb1.mono (by first | exact G1.out.2.size | exact (pw_below_drewN G1.out.2 _).size)); have hz2 : B < w2.heap.size := blk_lt g2; obtain ⟨y0, y1, y2, y3, y4, y5, y6, y7, y8, y9, y10, y11, y12, y13, y14, y15⟩ := cells16 g2; clear z0 z1 z2 z3 z4 z5 z6 z7 z8 z9 z10 z11 z12 z13 z14 z15; have G2 := Lib.hid (And.intro g2 b2); clear g2 b2 hb1)
    | ((with_reducible refine gate_dst (N := 25) rfl ?_); (try (refine gate_guard (by rfl) ?_; dsimp only)); refine wpList_load_row rfl 39 (.tmp 1) rfl B rfl 39 #[.int .i64 a0_0, .int .i64 a0_1, .bool a0_2, .string a0_3, .int .i64 a0_4, .string a0_5, .string a0_6, .int .i64 a0_7, .int .i64 a0_8, .int .i64 a0_9, .int .i64 a0_10, .int .i64 a0_11, .string a0_12, .string a0_13, .int .i64 a0_14, .bool a0_15] (0, 0) _ (by first | exact G5.out.1 | exact blk_drewN G5.out.1 _ | exact G4.out.1 | exact blk_drewN G4.out.1 _ | exact G3.out.1 | exact blk_drewN G3.out.1 _ | exact G2.out.1 | exact blk_drewN G2.out.1 _ | exact G1.out.1 | exact blk_drewN G1.out.1 _) Try.underlying39 rfl (by kernel_rfl) ?_)
    | (fail))
  go_ret
  exact ⟨by first | rfl | simp, by with_reducible first | exact G2.out.2 | exact pw_below_drewN G2.out.2 _ | exact pw_below_drewN (pw_below_drewN G2.out.2 _) _ | exact G2.out.2.alloc G2.out.2.size _ | exact pw_below_drewN (G2.out.2.alloc G2.out.2.size _) _⟩
set_option maxRecDepth 100000 in
theorem upd_k (a0_0 : Int) (a0_1 : Int) (a0_2 : Bool) (a0_3 : ByteArray) (a0_4 : Int) (a0_5 : ByteArray) (a0_6 : ByteArray) (a0_7 : Int) (a0_8 : Int) (a0_9 : Int) (a0_10 : Int) (a0_11 : Int) (a0_12 : ByteArray) (a0_13 : ByteArray) (a0_14 : Int) (a0_15 : Bool) (w : World) (hd : ∀ W, Calls Try.prog 86 #[.agg #[.int .i64 a0_4, .string a0_5, .string a0_6, .int .i64 a0_7]] W fun e w' => e = .returned (.int .i64 0) ∧ Below W.heap.size W w') (hk : (a0_3.toList == a0_5.toList) = false) :
    Calls Try.prog 79 #[.agg #[.int .i64 a0_0, .int .i64 a0_1, .bool a0_2, .string a0_3, .int .i64 a0_4, .string a0_5, .string a0_6, .int .i64 a0_7, .int .i64 a0_8, .int .i64 a0_9, .int .i64 a0_10, .int .i64 a0_11, .string a0_12, .string a0_13, .int .i64 a0_14, .bool a0_15]] w fun e w' => e = .returned (.bool false) ∧ Below w.heap.size w w' := by
  have hu39 := Try.underlying39
  have hu32 := Try.underlying32
  have hu35 := Try.underlying35
  have hu37 := Try.underlying37
  have HD := Lib.hid hd
  clear hd
  go_enter Try.func79, Try.ntmps79
  go_upto_region 1 with (fail)
  obtain ⟨B, hB⟩ : ∃ B, RowKit.Hid (B = w.heap.size) := ⟨_, Lib.hid rfl⟩
  obtain ⟨W1, hW1⟩ : ∃ W1, w.alloc (.cells #[.int .i64 a0_0, .int .i64 a0_1, .bool a0_2, .string a0_3, .int .i64 a0_4, .string a0_5, .string a0_6, .int .i64 a0_7, .int .i64 a0_8, .int .i64 a0_9, .int .i64 a0_10, .int .i64 a0_11, .string a0_12, .string a0_13, .int .i64 a0_14, .bool a0_15] 39) = W1 := ⟨_, rfl⟩
  have g1 : W1.heap[B]? = some (.cells #[.int .i64 a0_0, .int .i64 a0_1, .bool a0_2, .string a0_3, .int .i64 a0_4, .string a0_5, .string a0_6, .int .i64 a0_7, .int .i64 a0_8, .int .i64 a0_9, .int .i64 a0_10, .int .i64 a0_11, .string a0_12, .string a0_13, .int .i64 a0_14, .bool a0_15] 39 (0, 0)) := by rw [← hW1, hB.out]; exact heap_alloc_new w _
  have b1 : Below w.heap.size w W1 := by rw [← hW1]; exact (Below.refl _ _).alloc (Nat.le_refl _) _
  rw [hW1, ← hB.out]
  clear hW1
  obtain ⟨z0, z1, z2, z3, z4, z5, z6, z7, z8, z9, z10, z11, z12, z13, z14, z15⟩ := cells16 g1
  have G1 := Lib.hid (And.intro g1 b1)
  clear g1 b1
  go_wp2_with (first
    | (go_at_call 86; refine (HD.out _).mono ?_; rintro e w2 ⟨rfl, hb1⟩; have g2 := blk_below (by first | exact G1.out.1 | exact blk_drewN G1.out.1 _) hb1; have b2 : Below w.heap.size w w2 := (by first | exact G1.out.2 | exact pw_below_drewN G1.out.2 _ : Below w.heap.size w _).trans (hb1.mono (by first | exact G1.out.2.size | exact (pw_below_drewN G1.out.2 _).size)); have hz2 : B < w2.heap.size := blk_lt g2; obtain ⟨y0, y1, y2, y3, y4, y5, y6, y7, y8, y9, y10, y11, y12, y13, y14, y15⟩ := cells16 g2; clear z0 z1 z2 z3 z4 z5 z6 z7 z8 z9 z10 z11 z12 z13 z14 z15; have G2 := Lib.hid (And.intro g2 b2); clear g2 b2 hb1)
    | ((with_reducible refine gate_dst (N := 25) rfl ?_); (try (refine gate_guard (by rfl) ?_; dsimp only)); refine wpList_load_row rfl 39 (.tmp 1) rfl B rfl 39 #[.int .i64 a0_0, .int .i64 a0_1, .bool a0_2, .string a0_3, .int .i64 a0_4, .string a0_5, .string a0_6, .int .i64 a0_7, .int .i64 a0_8, .int .i64 a0_9, .int .i64 a0_10, .int .i64 a0_11, .string a0_12, .string a0_13, .int .i64 a0_14, .bool a0_15] (0, 0) _ (by first | exact G5.out.1 | exact blk_drewN G5.out.1 _ | exact G4.out.1 | exact blk_drewN G4.out.1 _ | exact G3.out.1 | exact blk_drewN G3.out.1 _ | exact G2.out.1 | exact blk_drewN G2.out.1 _ | exact G1.out.1 | exact blk_drewN G1.out.1 _) Try.underlying39 rfl (by kernel_rfl) ?_)
    | (fail))
  go_ret
  exact ⟨by first | rfl | simp, by with_reducible first | exact G2.out.2 | exact pw_below_drewN G2.out.2 _ | exact pw_below_drewN (pw_below_drewN G2.out.2 _) _ | exact G2.out.2.alloc G2.out.2.size _ | exact pw_below_drewN (G2.out.2.alloc G2.out.2.size _) _⟩
set_option maxRecDepth 100000 in
theorem upd_f (a0_0 : Int) (a0_1 : Int) (a0_2 : Bool) (a0_3 : ByteArray) (a0_4 : Int) (a0_5 : ByteArray) (a0_6 : ByteArray) (a0_7 : Int) (a0_8 : Int) (a0_9 : Int) (a0_10 : Int) (a0_11 : Int) (a0_12 : ByteArray) (a0_13 : ByteArray) (a0_14 : Int) (w : World) (hd : ∀ W, Calls Try.prog 86 #[.agg #[.int .i64 a0_4, .string a0_5, .string a0_6, .int .i64 a0_7]] W fun e w' => e = .returned (.int .i64 0) ∧ Below W.heap.size W w') (hk : (a0_3.toList == a0_5.toList) = true) :
    Calls Try.prog 79 #[.agg #[.int .i64 a0_0, .int .i64 a0_1, .bool a0_2, .string a0_3, .int .i64 a0_4, .string a0_5, .string a0_6, .int .i64 a0_7, .int .i64 a0_8, .int .i64 a0_9, .int .i64 a0_10, .int .i64 a0_11, .string a0_12, .string a0_13, .int .i64 a0_14, .bool true]] w fun e w' => e = .returned (.bool false) ∧ Below w.heap.size w w' := by
  have hu39 := Try.underlying39
  have hu32 := Try.underlying32
  have hu35 := Try.underlying35
  have hu37 := Try.underlying37
  have HD := Lib.hid hd
  clear hd
  go_enter Try.func79, Try.ntmps79
  go_upto_region 1 with (fail)
  obtain ⟨B, hB⟩ : ∃ B, RowKit.Hid (B = w.heap.size) := ⟨_, Lib.hid rfl⟩
  obtain ⟨W1, hW1⟩ : ∃ W1, w.alloc (.cells #[.int .i64 a0_0, .int .i64 a0_1, .bool a0_2, .string a0_3, .int .i64 a0_4, .string a0_5, .string a0_6, .int .i64 a0_7, .int .i64 a0_8, .int .i64 a0_9, .int .i64 a0_10, .int .i64 a0_11, .string a0_12, .string a0_13, .int .i64 a0_14, .bool true] 39) = W1 := ⟨_, rfl⟩
  have g1 : W1.heap[B]? = some (.cells #[.int .i64 a0_0, .int .i64 a0_1, .bool a0_2, .string a0_3, .int .i64 a0_4, .string a0_5, .string a0_6, .int .i64 a0_7, .int .i64 a0_8, .int .i64 a0_9, .int .i64 a0_10, .int .i64 a0_11, .string a0_12, .string a0_13, .int .i64 a0_14, .bool true] 39 (0, 0)) := by rw [← hW1, hB.out]; exact heap_alloc_new w _
  have b1 : Below w.heap.size w W1 := by rw [← hW1]; exact (Below.refl _ _).alloc (Nat.le_refl _) _
  rw [hW1, ← hB.out]
  clear hW1
  obtain ⟨z0, z1, z2, z3, z4, z5, z6, z7, z8, z9, z10, z11, z12, z13, z14, z15⟩ := cells16 g1
  have G1 := Lib.hid (And.intro g1 b1)
  clear g1 b1
  go_wp2_with (first
    | (go_at_call 86; refine (HD.out _).mono ?_; rintro e w2 ⟨rfl, hb1⟩; have g2 := blk_below (by first | exact G1.out.1 | exact blk_drewN G1.out.1 _) hb1; have b2 : Below w.heap.size w w2 := (by first | exact G1.out.2 | exact pw_below_drewN G1.out.2 _ : Below w.heap.size w _).trans (hb1.mono (by first | exact G1.out.2.size | exact (pw_below_drewN G1.out.2 _).size)); have hz2 : B < w2.heap.size := blk_lt g2; obtain ⟨y0, y1, y2, y3, y4, y5, y6, y7, y8, y9, y10, y11, y12, y13, y14, y15⟩ := cells16 g2; clear z0 z1 z2 z3 z4 z5 z6 z7 z8 z9 z10 z11 z12 z13 z14 z15; have G2 := Lib.hid (And.intro g2 b2); clear g2 b2 hb1)
    | ((with_reducible refine gate_dst (N := 25) rfl ?_); (try (refine gate_guard (by rfl) ?_; dsimp only)); refine wpList_load_row rfl 39 (.tmp 1) rfl B rfl 39 #[.int .i64 a0_0, .int .i64 a0_1, .bool a0_2, .string a0_3, .int .i64 a0_4, .string a0_5, .string a0_6, .int .i64 a0_7, .int .i64 a0_8, .int .i64 a0_9, .int .i64 a0_10, .int .i64 a0_11, .string a0_12, .string a0_13, .int .i64 a0_14, .bool true] (0, 0) _ (by first | exact G5.out.1 | exact blk_drewN G5.out.1 _ | exact G4.out.1 | exact blk_drewN G4.out.1 _ | exact G3.out.1 | exact blk_drewN G3.out.1 _ | exact G2.out.1 | exact blk_drewN G2.out.1 _ | exact G1.out.1 | exact blk_drewN G1.out.1 _) Try.underlying39 rfl (by kernel_rfl) ?_)
    | (fail))
  go_ret
  exact ⟨by first | rfl | simp, by with_reducible first | exact G2.out.2 | exact pw_below_drewN G2.out.2 _ | exact pw_below_drewN (pw_below_drewN G2.out.2 _) _ | exact G2.out.2.alloc G2.out.2.size _ | exact pw_below_drewN (G2.out.2.alloc G2.out.2.size _) _⟩
set_option maxRecDepth 100000 in
theorem upd_w12 (a0_0 : Int) (a0_1 : Int) (a0_2 : Bool) (a0_3 : ByteArray) (a0_4 : Int) (a0_5 : ByteArray) (a0_6 : ByteArray) (a0_7 : Int) (a0_8 : Int) (a0_9 : Int) (a0_10 : Int) (a0_11 : Int) (a0_12 : ByteArray) (a0_13 : ByteArray) (a0_14 : Int) (w : World) (hd : ∀ W, Calls Try.prog 86 #[.agg #[.int .i64 a0_4, .string a0_5, .string a0_6, .int .i64 a0_7]] W fun e w' => e = .returned (.int .i64 0) ∧ Below W.heap.size W w') (hk : (a0_3.toList == a0_5.toList) = true) (h_a0_12 : a0_12.toList.isEmpty = false) :
    Calls Try.prog 79 #[.agg #[.int .i64 a0_0, .int .i64 a0_1, .bool a0_2, .string a0_3, .int .i64 a0_4, .string a0_5, .string a0_6, .int .i64 a0_7, .int .i64 a0_8, .int .i64 a0_9, .int .i64 a0_10, .int .i64 a0_11, .string a0_12, .string a0_13, .int .i64 a0_14, .bool false]] w fun e w' => e = .returned (.bool false) ∧ Below w.heap.size w w' := by
  have hu39 := Try.underlying39
  have hu32 := Try.underlying32
  have hu35 := Try.underlying35
  have hu37 := Try.underlying37
  have HD := Lib.hid hd
  clear hd
  go_enter Try.func79, Try.ntmps79
  go_upto_region 1 with (fail)
  obtain ⟨B, hB⟩ : ∃ B, RowKit.Hid (B = w.heap.size) := ⟨_, Lib.hid rfl⟩
  obtain ⟨W1, hW1⟩ : ∃ W1, w.alloc (.cells #[.int .i64 a0_0, .int .i64 a0_1, .bool a0_2, .string a0_3, .int .i64 a0_4, .string a0_5, .string a0_6, .int .i64 a0_7, .int .i64 a0_8, .int .i64 a0_9, .int .i64 a0_10, .int .i64 a0_11, .string a0_12, .string a0_13, .int .i64 a0_14, .bool false] 39) = W1 := ⟨_, rfl⟩
  have g1 : W1.heap[B]? = some (.cells #[.int .i64 a0_0, .int .i64 a0_1, .bool a0_2, .string a0_3, .int .i64 a0_4, .string a0_5, .string a0_6, .int .i64 a0_7, .int .i64 a0_8, .int .i64 a0_9, .int .i64 a0_10, .int .i64 a0_11, .string a0_12, .string a0_13, .int .i64 a0_14, .bool false] 39 (0, 0)) := by rw [← hW1, hB.out]; exact heap_alloc_new w _
  have b1 : Below w.heap.size w W1 := by rw [← hW1]; exact (Below.refl _ _).alloc (Nat.le_refl _) _
  rw [hW1, ← hB.out]
  clear hW1
  obtain ⟨z0, z1, z2, z3, z4, z5, z6, z7, z8, z9, z10, z11, z12, z13, z14, z15⟩ := cells16 g1
  have G1 := Lib.hid (And.intro g1 b1)
  clear g1 b1
  go_wp2_with (first
    | (go_at_call 86; refine (HD.out _).mono ?_; rintro e w2 ⟨rfl, hb1⟩; have g2 := blk_below (by first | exact G1.out.1 | exact blk_drewN G1.out.1 _) hb1; have b2 : Below w.heap.size w w2 := (by first | exact G1.out.2 | exact pw_below_drewN G1.out.2 _ : Below w.heap.size w _).trans (hb1.mono (by first | exact G1.out.2.size | exact (pw_below_drewN G1.out.2 _).size)); have hz2 : B < w2.heap.size := blk_lt g2; obtain ⟨y0, y1, y2, y3, y4, y5, y6, y7, y8, y9, y10, y11, y12, y13, y14, y15⟩ := cells16 g2; clear z0 z1 z2 z3 z4 z5 z6 z7 z8 z9 z10 z11 z12 z13 z14 z15; have G2 := Lib.hid (And.intro g2 b2); clear g2 b2 hb1)
    | ((with_reducible refine gate_dst (N := 25) rfl ?_); (try (refine gate_guard (by rfl) ?_; dsimp only)); refine wpList_load_row rfl 39 (.tmp 1) rfl B rfl 39 #[.int .i64 a0_0, .int .i64 a0_1, .bool a0_2, .string a0_3, .int .i64 a0_4, .string a0_5, .string a0_6, .int .i64 a0_7, .int .i64 a0_8, .int .i64 a0_9, .int .i64 a0_10, .int .i64 a0_11, .string a0_12, .string a0_13, .int .i64 a0_14, .bool false] (0, 0) _ (by first | exact G5.out.1 | exact blk_drewN G5.out.1 _ | exact G4.out.1 | exact blk_drewN G4.out.1 _ | exact G3.out.1 | exact blk_drewN G3.out.1 _ | exact G2.out.1 | exact blk_drewN G2.out.1 _ | exact G1.out.1 | exact blk_drewN G1.out.1 _) Try.underlying39 rfl (by kernel_rfl) ?_)
    | (fail))
  go_ret
  exact ⟨by first | rfl | simp, by with_reducible first | exact G2.out.2 | exact pw_below_drewN G2.out.2 _ | exact pw_below_drewN (pw_below_drewN G2.out.2 _) _ | exact G2.out.2.alloc G2.out.2.size _ | exact pw_below_drewN (G2.out.2.alloc G2.out.2.size _) _⟩
set_option maxRecDepth 100000 in
theorem upd_w13 (a0_0 : Int) (a0_1 : Int) (a0_2 : Bool) (a0_3 : ByteArray) (a0_4 : Int) (a0_5 : ByteArray) (a0_6 : ByteArray) (a0_7 : Int) (a0_8 : Int) (a0_9 : Int) (a0_10 : Int) (a0_11 : Int) (a0_13 : ByteArray) (a0_14 : Int) (w : World) (hd : ∀ W, Calls Try.prog 86 #[.agg #[.int .i64 a0_4, .string a0_5, .string a0_6, .int .i64 a0_7]] W fun e w' => e = .returned (.int .i64 0) ∧ Below W.heap.size W w') (hk : (a0_3.toList == a0_5.toList) = true) (h_a0_13 : a0_13.toList.isEmpty = false) :
    Calls Try.prog 79 #[.agg #[.int .i64 a0_0, .int .i64 a0_1, .bool a0_2, .string a0_3, .int .i64 a0_4, .string a0_5, .string a0_6, .int .i64 a0_7, .int .i64 a0_8, .int .i64 a0_9, .int .i64 a0_10, .int .i64 a0_11, .string (⟨#[]⟩ : ByteArray), .string a0_13, .int .i64 a0_14, .bool false]] w fun e w' => e = .returned (.bool false) ∧ Below w.heap.size w w' := by
  have hu39 := Try.underlying39
  have hu32 := Try.underlying32
  have hu35 := Try.underlying35
  have hu37 := Try.underlying37
  have HD := Lib.hid hd
  clear hd
  go_enter Try.func79, Try.ntmps79
  go_upto_region 1 with (fail)
  obtain ⟨B, hB⟩ : ∃ B, RowKit.Hid (B = w.heap.size) := ⟨_, Lib.hid rfl⟩
  obtain ⟨W1, hW1⟩ : ∃ W1, w.alloc (.cells #[.int .i64 a0_0, .int .i64 a0_1, .bool a0_2, .string a0_3, .int .i64 a0_4, .string a0_5, .string a0_6, .int .i64 a0_7, .int .i64 a0_8, .int .i64 a0_9, .int .i64 a0_10, .int .i64 a0_11, .string (⟨#[]⟩ : ByteArray), .string a0_13, .int .i64 a0_14, .bool false] 39) = W1 := ⟨_, rfl⟩
  have g1 : W1.heap[B]? = some (.cells #[.int .i64 a0_0, .int .i64 a0_1, .bool a0_2, .string a0_3, .int .i64 a0_4, .string a0_5, .string a0_6, .int .i64 a0_7, .int .i64 a0_8, .int .i64 a0_9, .int .i64 a0_10, .int .i64 a0_11, .string (⟨#[]⟩ : ByteArray), .string a0_13, .int .i64 a0_14, .bool false] 39 (0, 0)) := by rw [← hW1, hB.out]; exact heap_alloc_new w _
  have b1 : Below w.heap.size w W1 := by rw [← hW1]; exact (Below.refl _ _).alloc (Nat.le_refl _) _
  rw [hW1, ← hB.out]
  clear hW1
  obtain ⟨z0, z1, z2, z3, z4, z5, z6, z7, z8, z9, z10, z11, z12, z13, z14, z15⟩ := cells16 g1
  have G1 := Lib.hid (And.intro g1 b1)
  clear g1 b1
  go_wp2_with (first
    | (go_at_call 86; refine (HD.out _).mono ?_; rintro e w2 ⟨rfl, hb1⟩; have g2 := blk_below (by first | exact G1.out.1 | exact blk_drewN G1.out.1 _) hb1; have b2 : Below w.heap.size w w2 := (by first | exact G1.out.2 | exact pw_below_drewN G1.out.2 _ : Below w.heap.size w _).trans (hb1.mono (by first | exact G1.out.2.size | exact (pw_below_drewN G1.out.2 _).size)); have hz2 : B < w2.heap.size := blk_lt g2; obtain ⟨y0, y1, y2, y3, y4, y5, y6, y7, y8, y9, y10, y11, y12, y13, y14, y15⟩ := cells16 g2; clear z0 z1 z2 z3 z4 z5 z6 z7 z8 z9 z10 z11 z12 z13 z14 z15; have G2 := Lib.hid (And.intro g2 b2); clear g2 b2 hb1)
    | ((with_reducible refine gate_dst (N := 25) rfl ?_); (try (refine gate_guard (by rfl) ?_; dsimp only)); refine wpList_load_row rfl 39 (.tmp 1) rfl B rfl 39 #[.int .i64 a0_0, .int .i64 a0_1, .bool a0_2, .string a0_3, .int .i64 a0_4, .string a0_5, .string a0_6, .int .i64 a0_7, .int .i64 a0_8, .int .i64 a0_9, .int .i64 a0_10, .int .i64 a0_11, .string (⟨#[]⟩ : ByteArray), .string a0_13, .int .i64 a0_14, .bool false] (0, 0) _ (by first | exact G5.out.1 | exact blk_drewN G5.out.1 _ | exact G4.out.1 | exact blk_drewN G4.out.1 _ | exact G3.out.1 | exact blk_drewN G3.out.1 _ | exact G2.out.1 | exact blk_drewN G2.out.1 _ | exact G1.out.1 | exact blk_drewN G1.out.1 _) Try.underlying39 rfl (by kernel_rfl) ?_)
    | (fail))
  go_ret
  exact ⟨by first | rfl | simp, by with_reducible first | exact G2.out.2 | exact pw_below_drewN G2.out.2 _ | exact pw_below_drewN (pw_below_drewN G2.out.2 _) _ | exact G2.out.2.alloc G2.out.2.size _ | exact pw_below_drewN (G2.out.2.alloc G2.out.2.size _) _⟩
set_option maxRecDepth 100000 in
theorem upd_w14 (a0_0 : Int) (a0_1 : Int) (a0_2 : Bool) (a0_3 : ByteArray) (a0_4 : Int) (a0_5 : ByteArray) (a0_6 : ByteArray) (a0_7 : Int) (a0_8 : Int) (a0_9 : Int) (a0_10 : Int) (a0_11 : Int) (a0_14 : Int) (w : World) (hd : ∀ W, Calls Try.prog 86 #[.agg #[.int .i64 a0_4, .string a0_5, .string a0_6, .int .i64 a0_7]] W fun e w' => e = .returned (.int .i64 0) ∧ Below W.heap.size W w') (hk : (a0_3.toList == a0_5.toList) = true) (h_a0_14 : (a0_14 == 0) = false) :
    Calls Try.prog 79 #[.agg #[.int .i64 a0_0, .int .i64 a0_1, .bool a0_2, .string a0_3, .int .i64 a0_4, .string a0_5, .string a0_6, .int .i64 a0_7, .int .i64 a0_8, .int .i64 a0_9, .int .i64 a0_10, .int .i64 a0_11, .string (⟨#[]⟩ : ByteArray), .string (⟨#[]⟩ : ByteArray), .int .i64 a0_14, .bool false]] w fun e w' => e = .returned (.bool false) ∧ Below w.heap.size w w' := by
  have hu39 := Try.underlying39
  have hu32 := Try.underlying32
  have hu35 := Try.underlying35
  have hu37 := Try.underlying37
  have HD := Lib.hid hd
  clear hd
  go_enter Try.func79, Try.ntmps79
  go_upto_region 1 with (fail)
  obtain ⟨B, hB⟩ : ∃ B, RowKit.Hid (B = w.heap.size) := ⟨_, Lib.hid rfl⟩
  obtain ⟨W1, hW1⟩ : ∃ W1, w.alloc (.cells #[.int .i64 a0_0, .int .i64 a0_1, .bool a0_2, .string a0_3, .int .i64 a0_4, .string a0_5, .string a0_6, .int .i64 a0_7, .int .i64 a0_8, .int .i64 a0_9, .int .i64 a0_10, .int .i64 a0_11, .string (⟨#[]⟩ : ByteArray), .string (⟨#[]⟩ : ByteArray), .int .i64 a0_14, .bool false] 39) = W1 := ⟨_, rfl⟩
  have g1 : W1.heap[B]? = some (.cells #[.int .i64 a0_0, .int .i64 a0_1, .bool a0_2, .string a0_3, .int .i64 a0_4, .string a0_5, .string a0_6, .int .i64 a0_7, .int .i64 a0_8, .int .i64 a0_9, .int .i64 a0_10, .int .i64 a0_11, .string (⟨#[]⟩ : ByteArray), .string (⟨#[]⟩ : ByteArray), .int .i64 a0_14, .bool false] 39 (0, 0)) := by rw [← hW1, hB.out]; exact heap_alloc_new w _
  have b1 : Below w.heap.size w W1 := by rw [← hW1]; exact (Below.refl _ _).alloc (Nat.le_refl _) _
  rw [hW1, ← hB.out]
  clear hW1
  obtain ⟨z0, z1, z2, z3, z4, z5, z6, z7, z8, z9, z10, z11, z12, z13, z14, z15⟩ := cells16 g1
  have G1 := Lib.hid (And.intro g1 b1)
  clear g1 b1
  go_wp2_with (first
    | (go_at_call 86; refine (HD.out _).mono ?_; rintro e w2 ⟨rfl, hb1⟩; have g2 := blk_below (by first | exact G1.out.1 | exact blk_drewN G1.out.1 _) hb1; have b2 : Below w.heap.size w w2 := (by first | exact G1.out.2 | exact pw_below_drewN G1.out.2 _ : Below w.heap.size w _).trans (hb1.mono (by first | exact G1.out.2.size | exact (pw_below_drewN G1.out.2 _).size)); have hz2 : B < w2.heap.size := blk_lt g2; obtain ⟨y0, y1, y2, y3, y4, y5, y6, y7, y8, y9, y10, y11, y12, y13, y14, y15⟩ := cells16 g2; clear z0 z1 z2 z3 z4 z5 z6 z7 z8 z9 z10 z11 z12 z13 z14 z15; have G2 := Lib.hid (And.intro g2 b2); clear g2 b2 hb1)
    | ((with_reducible refine gate_dst (N := 25) rfl ?_); (try (refine gate_guard (by rfl) ?_; dsimp only)); refine wpList_load_row rfl 39 (.tmp 1) rfl B rfl 39 #[.int .i64 a0_0, .int .i64 a0_1, .bool a0_2, .string a0_3, .int .i64 a0_4, .string a0_5, .string a0_6, .int .i64 a0_7, .int .i64 a0_8, .int .i64 a0_9, .int .i64 a0_10, .int .i64 a0_11, .string (⟨#[]⟩ : ByteArray), .string (⟨#[]⟩ : ByteArray), .int .i64 a0_14, .bool false] (0, 0) _ (by first | exact G5.out.1 | exact blk_drewN G5.out.1 _ | exact G4.out.1 | exact blk_drewN G4.out.1 _ | exact G3.out.1 | exact blk_drewN G3.out.1 _ | exact G2.out.1 | exact blk_drewN G2.out.1 _ | exact G1.out.1 | exact blk_drewN G1.out.1 _) Try.underlying39 rfl (by kernel_rfl) ?_)
    | (fail))
  go_ret
  exact ⟨by first | rfl | simp, by with_reducible first | exact G2.out.2 | exact pw_below_drewN G2.out.2 _ | exact pw_below_drewN (pw_below_drewN G2.out.2 _) _ | exact G2.out.2.alloc G2.out.2.size _ | exact pw_below_drewN (G2.out.2.alloc G2.out.2.size _) _⟩
set_option maxRecDepth 100000 in
theorem upd_e (a0_0 : Int) (a0_1 : Int) (a0_2 : Bool) (a0_3 : ByteArray) (a0_4 : Int) (a0_5 : ByteArray) (a0_6 : ByteArray) (a0_7 : Int) (a0_8 : Int) (a0_9 : Int) (a0_10 : Int) (a0_11 : Int) (w : World) (hd : ∀ W, Calls Try.prog 86 #[.agg #[.int .i64 a0_4, .string a0_5, .string a0_6, .int .i64 a0_7]] W fun e w' => e = .returned (.int .i64 0) ∧ Below W.heap.size W w') (hk : (a0_3.toList == a0_5.toList) = true) (h9 : (a0_9 != -1) = true) (b : Bool) (hq : ∀ W, Calls Try.prog 121 #[.agg #[.int .i64 a0_4, .string a0_5, .string a0_6, .int .i64 a0_7], .agg #[.int .i64 a0_10, .int .i64 a0_11]] W fun e w' => e = .returned (.bool b) ∧ Below W.heap.size W w') :
    Calls Try.prog 79 #[.agg #[.int .i64 a0_0, .int .i64 a0_1, .bool a0_2, .string a0_3, .int .i64 a0_4, .string a0_5, .string a0_6, .int .i64 a0_7, .int .i64 a0_8, .int .i64 a0_9, .int .i64 a0_10, .int .i64 a0_11, .string (⟨#[]⟩ : ByteArray), .string (⟨#[]⟩ : ByteArray), .int .i64 0, .bool false]] w fun e w' => e = .returned (.bool b) ∧ Below w.heap.size w w' := by
  have hu39 := Try.underlying39
  have hu32 := Try.underlying32
  have hu35 := Try.underlying35
  have hu37 := Try.underlying37
  have HD := Lib.hid hd
  clear hd
  have HA := Lib.hid (fun W => answered_any (a0_0) (a0_1) (a0_2) (a0_3) (a0_4) (a0_5) (a0_6) (a0_7) (a0_8) (a0_9) (a0_10) (a0_11) ((⟨#[]⟩ : ByteArray)) ((⟨#[]⟩ : ByteArray)) (0) (false) true h9 W)
  clear h9
  have HR := Lib.hid hq
  clear hq
  go_enter Try.func79, Try.ntmps79
  go_upto_region 1 with (fail)
  obtain ⟨B, hB⟩ : ∃ B, RowKit.Hid (B = w.heap.size) := ⟨_, Lib.hid rfl⟩
  obtain ⟨W1, hW1⟩ : ∃ W1, w.alloc (.cells #[.int .i64 a0_0, .int .i64 a0_1, .bool a0_2, .string a0_3, .int .i64 a0_4, .string a0_5, .string a0_6, .int .i64 a0_7, .int .i64 a0_8, .int .i64 a0_9, .int .i64 a0_10, .int .i64 a0_11, .string (⟨#[]⟩ : ByteArray), .string (⟨#[]⟩ : ByteArray), .int .i64 0, .bool false] 39) = W1 := ⟨_, rfl⟩
  have g1 : W1.heap[B]? = some (.cells #[.int .i64 a0_0, .int .i64 a0_1, .bool a0_2, .string a0_3, .int .i64 a0_4, .string a0_5, .string a0_6, .int .i64 a0_7, .int .i64 a0_8, .int .i64 a0_9, .int .i64 a0_10, .int .i64 a0_11, .string (⟨#[]⟩ : ByteArray), .string (⟨#[]⟩ : ByteArray), .int .i64 0, .bool false] 39 (0, 0)) := by rw [← hW1, hB.out]; exact heap_alloc_new w _
  have b1 : Below w.heap.size w W1 := by rw [← hW1]; exact (Below.refl _ _).alloc (Nat.le_refl _) _
  rw [hW1, ← hB.out]
  clear hW1
  obtain ⟨z0, z1, z2, z3, z4, z5, z6, z7, z8, z9, z10, z11, z12, z13, z14, z15⟩ := cells16 g1
  have G1 := Lib.hid (And.intro g1 b1)
  clear g1 b1
  go_wp2_with (first
    | (go_at_call 86; refine (HD.out _).mono ?_; rintro e w2 ⟨rfl, hb1⟩; have g2 := blk_below (by first | exact G1.out.1 | exact blk_drewN G1.out.1 _) hb1; have b2 : Below w.heap.size w w2 := (by first | exact G1.out.2 | exact pw_below_drewN G1.out.2 _ : Below w.heap.size w _).trans (hb1.mono (by first | exact G1.out.2.size | exact (pw_below_drewN G1.out.2 _).size)); have hz2 : B < w2.heap.size := blk_lt g2; obtain ⟨y0, y1, y2, y3, y4, y5, y6, y7, y8, y9, y10, y11, y12, y13, y14, y15⟩ := cells16 g2; clear z0 z1 z2 z3 z4 z5 z6 z7 z8 z9 z10 z11 z12 z13 z14 z15; have G2 := Lib.hid (And.intro g2 b2); clear g2 b2 hb1)
    | (go_at_call 42; refine (HA.out _).mono ?_; rintro e w3 ⟨rfl, hb2⟩; have g3 := blk_below (by first | exact G2.out.1 | exact blk_drewN G2.out.1 _) hb2; have b3 : Below w.heap.size w w3 := (by first | exact G2.out.2 | exact pw_below_drewN G2.out.2 _ : Below w.heap.size w _).trans (hb2.mono (by first | exact G2.out.2.size | exact (pw_below_drewN G2.out.2 _).size)); have hz3 : B < w3.heap.size := blk_lt g3; obtain ⟨v0, v1, v2, v3, v4, v5, v6, v7, v8, v9, v10, v11, v12, v13, v14, v15⟩ := cells16 g3; clear y0 y1 y2 y3 y4 y5 y6 y7 y8 y9 y10 y11 y12 y13 y14 y15 hz2; have G3 := Lib.hid (And.intro g3 b3); clear g3 b3 hb2)
    | (go_at_call 121; refine (HR.out _).mono ?_; rintro e w4 ⟨rfl, hb3⟩; have g4 := blk_below (by first | exact G3.out.1 | exact blk_drewN G3.out.1 _) hb3; have b4 : Below w.heap.size w w4 := (by first | exact G3.out.2 | exact pw_below_drewN G3.out.2 _ : Below w.heap.size w _).trans (hb3.mono (by first | exact G3.out.2.size | exact (pw_below_drewN G3.out.2 _).size)); have hz4 : B < w4.heap.size := blk_lt g4; obtain ⟨u0, u1, u2, u3, u4, u5, u6, u7, u8, u9, u10, u11, u12, u13, u14, u15⟩ := cells16 g4; clear v0 v1 v2 v3 v4 v5 v6 v7 v8 v9 v10 v11 v12 v13 v14 v15 hz3; have G4 := Lib.hid (And.intro g4 b4); clear g4 b4 hb3)
    | ((with_reducible refine gate_dst (N := 25) rfl ?_); (try (refine gate_guard (by rfl) ?_; dsimp only)); refine wpList_load_row rfl 39 (.tmp 1) rfl B rfl 39 #[.int .i64 a0_0, .int .i64 a0_1, .bool a0_2, .string a0_3, .int .i64 a0_4, .string a0_5, .string a0_6, .int .i64 a0_7, .int .i64 a0_8, .int .i64 a0_9, .int .i64 a0_10, .int .i64 a0_11, .string (⟨#[]⟩ : ByteArray), .string (⟨#[]⟩ : ByteArray), .int .i64 0, .bool false] (0, 0) _ (by first | exact G5.out.1 | exact blk_drewN G5.out.1 _ | exact G4.out.1 | exact blk_drewN G4.out.1 _ | exact G3.out.1 | exact blk_drewN G3.out.1 _ | exact G2.out.1 | exact blk_drewN G2.out.1 _ | exact G1.out.1 | exact blk_drewN G1.out.1 _) Try.underlying39 rfl (by kernel_rfl) ?_)
    | (fail))
  go_ret
  exact ⟨by first | rfl | simp, by with_reducible first | exact G4.out.2 | exact pw_below_drewN G4.out.2 _ | exact pw_below_drewN (pw_below_drewN G4.out.2 _) _ | exact G4.out.2.alloc G4.out.2.size _ | exact pw_below_drewN (G4.out.2.alloc G4.out.2.size _) _⟩
set_option maxRecDepth 100000 in
theorem upd_n10 (a0_0 : Int) (a0_1 : Int) (a0_2 : Bool) (a0_3 : ByteArray) (a0_4 : Int) (a0_5 : ByteArray) (a0_6 : ByteArray) (a0_7 : Int) (a0_8 : Int) (a0_10 : Int) (a0_11 : Int) (w : World) (hd : ∀ W, Calls Try.prog 86 #[.agg #[.int .i64 a0_4, .string a0_5, .string a0_6, .int .i64 a0_7]] W fun e w' => e = .returned (.int .i64 0) ∧ Below W.heap.size W w') (hk : (a0_3.toList == a0_5.toList) = true) (h_a0_10 : (a0_10 == 0) = false) :
    Calls Try.prog 79 #[.agg #[.int .i64 a0_0, .int .i64 a0_1, .bool a0_2, .string a0_3, .int .i64 a0_4, .string a0_5, .string a0_6, .int .i64 a0_7, .int .i64 a0_8, .int .i64 (-1), .int .i64 a0_10, .int .i64 a0_11, .string (⟨#[]⟩ : ByteArray), .string (⟨#[]⟩ : ByteArray), .int .i64 0, .bool false]] w fun e w' => e = .returned (.bool false) ∧ Below w.heap.size w w' := by
  have hu39 := Try.underlying39
  have hu32 := Try.underlying32
  have hu35 := Try.underlying35
  have hu37 := Try.underlying37
  have HD := Lib.hid hd
  clear hd
  have HA := Lib.hid (fun W => answered_any (a0_0) (a0_1) (a0_2) (a0_3) (a0_4) (a0_5) (a0_6) (a0_7) (a0_8) ((-1)) (a0_10) (a0_11) ((⟨#[]⟩ : ByteArray)) ((⟨#[]⟩ : ByteArray)) (0) (false) false (by decide) W)
  go_enter Try.func79, Try.ntmps79
  go_upto_region 1 with (fail)
  obtain ⟨B, hB⟩ : ∃ B, RowKit.Hid (B = w.heap.size) := ⟨_, Lib.hid rfl⟩
  obtain ⟨W1, hW1⟩ : ∃ W1, w.alloc (.cells #[.int .i64 a0_0, .int .i64 a0_1, .bool a0_2, .string a0_3, .int .i64 a0_4, .string a0_5, .string a0_6, .int .i64 a0_7, .int .i64 a0_8, .int .i64 (-1), .int .i64 a0_10, .int .i64 a0_11, .string (⟨#[]⟩ : ByteArray), .string (⟨#[]⟩ : ByteArray), .int .i64 0, .bool false] 39) = W1 := ⟨_, rfl⟩
  have g1 : W1.heap[B]? = some (.cells #[.int .i64 a0_0, .int .i64 a0_1, .bool a0_2, .string a0_3, .int .i64 a0_4, .string a0_5, .string a0_6, .int .i64 a0_7, .int .i64 a0_8, .int .i64 (-1), .int .i64 a0_10, .int .i64 a0_11, .string (⟨#[]⟩ : ByteArray), .string (⟨#[]⟩ : ByteArray), .int .i64 0, .bool false] 39 (0, 0)) := by rw [← hW1, hB.out]; exact heap_alloc_new w _
  have b1 : Below w.heap.size w W1 := by rw [← hW1]; exact (Below.refl _ _).alloc (Nat.le_refl _) _
  rw [hW1, ← hB.out]
  clear hW1
  obtain ⟨z0, z1, z2, z3, z4, z5, z6, z7, z8, z9, z10, z11, z12, z13, z14, z15⟩ := cells16 g1
  have G1 := Lib.hid (And.intro g1 b1)
  clear g1 b1
  go_wp2_with (first
    | (go_at_call 86; refine (HD.out _).mono ?_; rintro e w2 ⟨rfl, hb1⟩; have g2 := blk_below (by first | exact G1.out.1 | exact blk_drewN G1.out.1 _) hb1; have b2 : Below w.heap.size w w2 := (by first | exact G1.out.2 | exact pw_below_drewN G1.out.2 _ : Below w.heap.size w _).trans (hb1.mono (by first | exact G1.out.2.size | exact (pw_below_drewN G1.out.2 _).size)); have hz2 : B < w2.heap.size := blk_lt g2; obtain ⟨y0, y1, y2, y3, y4, y5, y6, y7, y8, y9, y10, y11, y12, y13, y14, y15⟩ := cells16 g2; clear z0 z1 z2 z3 z4 z5 z6 z7 z8 z9 z10 z11 z12 z13 z14 z15; have G2 := Lib.hid (And.intro g2 b2); clear g2 b2 hb1)
    | (go_at_call 42; refine (HA.out _).mono ?_; rintro e w3 ⟨rfl, hb2⟩; have g3 := blk_below (by first | exact G2.out.1 | exact blk_drewN G2.out.1 _) hb2; have b3 : Below w.heap.size w w3 := (by first | exact G2.out.2 | exact pw_below_drewN G2.out.2 _ : Below w.heap.size w _).trans (hb2.mono (by first | exact G2.out.2.size | exact (pw_below_drewN G2.out.2 _).size)); have hz3 : B < w3.heap.size := blk_lt g3; obtain ⟨v0, v1, v2, v3, v4, v5, v6, v7, v8, v9, v10, v11, v12, v13, v14, v15⟩ := cells16 g3; clear y0 y1 y2 y3 y4 y5 y6 y7 y8 y9 y10 y11 y12 y13 y14 y15 hz2; have G3 := Lib.hid (And.intro g3 b3); clear g3 b3 hb2)
    | ((with_reducible refine gate_dst (N := 25) rfl ?_); (try (refine gate_guard (by rfl) ?_; dsimp only)); refine wpList_load_row rfl 39 (.tmp 1) rfl B rfl 39 #[.int .i64 a0_0, .int .i64 a0_1, .bool a0_2, .string a0_3, .int .i64 a0_4, .string a0_5, .string a0_6, .int .i64 a0_7, .int .i64 a0_8, .int .i64 (-1), .int .i64 a0_10, .int .i64 a0_11, .string (⟨#[]⟩ : ByteArray), .string (⟨#[]⟩ : ByteArray), .int .i64 0, .bool false] (0, 0) _ (by first | exact G5.out.1 | exact blk_drewN G5.out.1 _ | exact G4.out.1 | exact blk_drewN G4.out.1 _ | exact G3.out.1 | exact blk_drewN G3.out.1 _ | exact G2.out.1 | exact blk_drewN G2.out.1 _ | exact G1.out.1 | exact blk_drewN G1.out.1 _) Try.underlying39 rfl (by kernel_rfl) ?_)
    | (fail))
  go_ret
  exact ⟨by first | rfl | simp, by with_reducible first | exact G3.out.2 | exact pw_below_drewN G3.out.2 _ | exact pw_below_drewN (pw_below_drewN G3.out.2 _) _ | exact G3.out.2.alloc G3.out.2.size _ | exact pw_below_drewN (G3.out.2.alloc G3.out.2.size _) _⟩
set_option maxRecDepth 100000 in
theorem upd_n11 (a0_0 : Int) (a0_1 : Int) (a0_2 : Bool) (a0_3 : ByteArray) (a0_4 : Int) (a0_5 : ByteArray) (a0_6 : ByteArray) (a0_7 : Int) (a0_8 : Int) (a0_11 : Int) (w : World) (hd : ∀ W, Calls Try.prog 86 #[.agg #[.int .i64 a0_4, .string a0_5, .string a0_6, .int .i64 a0_7]] W fun e w' => e = .returned (.int .i64 0) ∧ Below W.heap.size W w') (hk : (a0_3.toList == a0_5.toList) = true) (h_a0_11 : (a0_11 == 0) = false) :
    Calls Try.prog 79 #[.agg #[.int .i64 a0_0, .int .i64 a0_1, .bool a0_2, .string a0_3, .int .i64 a0_4, .string a0_5, .string a0_6, .int .i64 a0_7, .int .i64 a0_8, .int .i64 (-1), .int .i64 0, .int .i64 a0_11, .string (⟨#[]⟩ : ByteArray), .string (⟨#[]⟩ : ByteArray), .int .i64 0, .bool false]] w fun e w' => e = .returned (.bool false) ∧ Below w.heap.size w w' := by
  have hu39 := Try.underlying39
  have hu32 := Try.underlying32
  have hu35 := Try.underlying35
  have hu37 := Try.underlying37
  have HD := Lib.hid hd
  clear hd
  have HA := Lib.hid (fun W => answered_any (a0_0) (a0_1) (a0_2) (a0_3) (a0_4) (a0_5) (a0_6) (a0_7) (a0_8) ((-1)) (0) (a0_11) ((⟨#[]⟩ : ByteArray)) ((⟨#[]⟩ : ByteArray)) (0) (false) false (by decide) W)
  go_enter Try.func79, Try.ntmps79
  go_upto_region 1 with (fail)
  obtain ⟨B, hB⟩ : ∃ B, RowKit.Hid (B = w.heap.size) := ⟨_, Lib.hid rfl⟩
  obtain ⟨W1, hW1⟩ : ∃ W1, w.alloc (.cells #[.int .i64 a0_0, .int .i64 a0_1, .bool a0_2, .string a0_3, .int .i64 a0_4, .string a0_5, .string a0_6, .int .i64 a0_7, .int .i64 a0_8, .int .i64 (-1), .int .i64 0, .int .i64 a0_11, .string (⟨#[]⟩ : ByteArray), .string (⟨#[]⟩ : ByteArray), .int .i64 0, .bool false] 39) = W1 := ⟨_, rfl⟩
  have g1 : W1.heap[B]? = some (.cells #[.int .i64 a0_0, .int .i64 a0_1, .bool a0_2, .string a0_3, .int .i64 a0_4, .string a0_5, .string a0_6, .int .i64 a0_7, .int .i64 a0_8, .int .i64 (-1), .int .i64 0, .int .i64 a0_11, .string (⟨#[]⟩ : ByteArray), .string (⟨#[]⟩ : ByteArray), .int .i64 0, .bool false] 39 (0, 0)) := by rw [← hW1, hB.out]; exact heap_alloc_new w _
  have b1 : Below w.heap.size w W1 := by rw [← hW1]; exact (Below.refl _ _).alloc (Nat.le_refl _) _
  rw [hW1, ← hB.out]
  clear hW1
  obtain ⟨z0, z1, z2, z3, z4, z5, z6, z7, z8, z9, z10, z11, z12, z13, z14, z15⟩ := cells16 g1
  have G1 := Lib.hid (And.intro g1 b1)
  clear g1 b1
  go_wp2_with (first
    | (go_at_call 86; refine (HD.out _).mono ?_; rintro e w2 ⟨rfl, hb1⟩; have g2 := blk_below (by first | exact G1.out.1 | exact blk_drewN G1.out.1 _) hb1; have b2 : Below w.heap.size w w2 := (by first | exact G1.out.2 | exact pw_below_drewN G1.out.2 _ : Below w.heap.size w _).trans (hb1.mono (by first | exact G1.out.2.size | exact (pw_below_drewN G1.out.2 _).size)); have hz2 : B < w2.heap.size := blk_lt g2; obtain ⟨y0, y1, y2, y3, y4, y5, y6, y7, y8, y9, y10, y11, y12, y13, y14, y15⟩ := cells16 g2; clear z0 z1 z2 z3 z4 z5 z6 z7 z8 z9 z10 z11 z12 z13 z14 z15; have G2 := Lib.hid (And.intro g2 b2); clear g2 b2 hb1)
    | (go_at_call 42; refine (HA.out _).mono ?_; rintro e w3 ⟨rfl, hb2⟩; have g3 := blk_below (by first | exact G2.out.1 | exact blk_drewN G2.out.1 _) hb2; have b3 : Below w.heap.size w w3 := (by first | exact G2.out.2 | exact pw_below_drewN G2.out.2 _ : Below w.heap.size w _).trans (hb2.mono (by first | exact G2.out.2.size | exact (pw_below_drewN G2.out.2 _).size)); have hz3 : B < w3.heap.size := blk_lt g3; obtain ⟨v0, v1, v2, v3, v4, v5, v6, v7, v8, v9, v10, v11, v12, v13, v14, v15⟩ := cells16 g3; clear y0 y1 y2 y3 y4 y5 y6 y7 y8 y9 y10 y11 y12 y13 y14 y15 hz2; have G3 := Lib.hid (And.intro g3 b3); clear g3 b3 hb2)
    | ((with_reducible refine gate_dst (N := 25) rfl ?_); (try (refine gate_guard (by rfl) ?_; dsimp only)); refine wpList_load_row rfl 39 (.tmp 1) rfl B rfl 39 #[.int .i64 a0_0, .int .i64 a0_1, .bool a0_2, .string a0_3, .int .i64 a0_4, .string a0_5, .string a0_6, .int .i64 a0_7, .int .i64 a0_8, .int .i64 (-1), .int .i64 0, .int .i64 a0_11, .string (⟨#[]⟩ : ByteArray), .string (⟨#[]⟩ : ByteArray), .int .i64 0, .bool false] (0, 0) _ (by first | exact G5.out.1 | exact blk_drewN G5.out.1 _ | exact G4.out.1 | exact blk_drewN G4.out.1 _ | exact G3.out.1 | exact blk_drewN G3.out.1 _ | exact G2.out.1 | exact blk_drewN G2.out.1 _ | exact G1.out.1 | exact blk_drewN G1.out.1 _) Try.underlying39 rfl (by kernel_rfl) ?_)
    | (fail))
  go_ret
  exact ⟨by first | rfl | simp, by with_reducible first | exact G3.out.2 | exact pw_below_drewN G3.out.2 _ | exact pw_below_drewN (pw_below_drewN G3.out.2 _) _ | exact G3.out.2.alloc G3.out.2.size _ | exact pw_below_drewN (G3.out.2.alloc G3.out.2.size _) _⟩
set_option maxRecDepth 100000 in
theorem upd_nz (a0_0 : Int) (a0_1 : Int) (a0_2 : Bool) (a0_3 : ByteArray) (a0_4 : Int) (a0_5 : ByteArray) (a0_6 : ByteArray) (a0_7 : Int) (a0_8 : Int) (w : World) (hd : ∀ W, Calls Try.prog 86 #[.agg #[.int .i64 a0_4, .string a0_5, .string a0_6, .int .i64 a0_7]] W fun e w' => e = .returned (.int .i64 0) ∧ Below W.heap.size W w') (hk : (a0_3.toList == a0_5.toList) = true) :
    Calls Try.prog 79 #[.agg #[.int .i64 a0_0, .int .i64 a0_1, .bool a0_2, .string a0_3, .int .i64 a0_4, .string a0_5, .string a0_6, .int .i64 a0_7, .int .i64 a0_8, .int .i64 (-1), .int .i64 0, .int .i64 0, .string (⟨#[]⟩ : ByteArray), .string (⟨#[]⟩ : ByteArray), .int .i64 0, .bool false]] w fun e w' => e = .returned (.bool true) ∧ Below w.heap.size w w' := by
  have hu39 := Try.underlying39
  have hu32 := Try.underlying32
  have hu35 := Try.underlying35
  have hu37 := Try.underlying37
  have HD := Lib.hid hd
  clear hd
  have HA := Lib.hid (fun W => answered_any (a0_0) (a0_1) (a0_2) (a0_3) (a0_4) (a0_5) (a0_6) (a0_7) (a0_8) ((-1)) (0) (0) ((⟨#[]⟩ : ByteArray)) ((⟨#[]⟩ : ByteArray)) (0) (false) false (by decide) W)
  go_enter Try.func79, Try.ntmps79
  go_upto_region 1 with (fail)
  obtain ⟨B, hB⟩ : ∃ B, RowKit.Hid (B = w.heap.size) := ⟨_, Lib.hid rfl⟩
  obtain ⟨W1, hW1⟩ : ∃ W1, w.alloc (.cells #[.int .i64 a0_0, .int .i64 a0_1, .bool a0_2, .string a0_3, .int .i64 a0_4, .string a0_5, .string a0_6, .int .i64 a0_7, .int .i64 a0_8, .int .i64 (-1), .int .i64 0, .int .i64 0, .string (⟨#[]⟩ : ByteArray), .string (⟨#[]⟩ : ByteArray), .int .i64 0, .bool false] 39) = W1 := ⟨_, rfl⟩
  have g1 : W1.heap[B]? = some (.cells #[.int .i64 a0_0, .int .i64 a0_1, .bool a0_2, .string a0_3, .int .i64 a0_4, .string a0_5, .string a0_6, .int .i64 a0_7, .int .i64 a0_8, .int .i64 (-1), .int .i64 0, .int .i64 0, .string (⟨#[]⟩ : ByteArray), .string (⟨#[]⟩ : ByteArray), .int .i64 0, .bool false] 39 (0, 0)) := by rw [← hW1, hB.out]; exact heap_alloc_new w _
  have b1 : Below w.heap.size w W1 := by rw [← hW1]; exact (Below.refl _ _).alloc (Nat.le_refl _) _
  rw [hW1, ← hB.out]
  clear hW1
  obtain ⟨z0, z1, z2, z3, z4, z5, z6, z7, z8, z9, z10, z11, z12, z13, z14, z15⟩ := cells16 g1
  have G1 := Lib.hid (And.intro g1 b1)
  clear g1 b1
  go_wp2_with (first
    | (go_at_call 86; refine (HD.out _).mono ?_; rintro e w2 ⟨rfl, hb1⟩; have g2 := blk_below (by first | exact G1.out.1 | exact blk_drewN G1.out.1 _) hb1; have b2 : Below w.heap.size w w2 := (by first | exact G1.out.2 | exact pw_below_drewN G1.out.2 _ : Below w.heap.size w _).trans (hb1.mono (by first | exact G1.out.2.size | exact (pw_below_drewN G1.out.2 _).size)); have hz2 : B < w2.heap.size := blk_lt g2; obtain ⟨y0, y1, y2, y3, y4, y5, y6, y7, y8, y9, y10, y11, y12, y13, y14, y15⟩ := cells16 g2; clear z0 z1 z2 z3 z4 z5 z6 z7 z8 z9 z10 z11 z12 z13 z14 z15; have G2 := Lib.hid (And.intro g2 b2); clear g2 b2 hb1)
    | (go_at_call 42; refine (HA.out _).mono ?_; rintro e w3 ⟨rfl, hb2⟩; have g3 := blk_below (by first | exact G2.out.1 | exact blk_drewN G2.out.1 _) hb2; have b3 : Below w.heap.size w w3 := (by first | exact G2.out.2 | exact pw_below_drewN G2.out.2 _ : Below w.heap.size w _).trans (hb2.mono (by first | exact G2.out.2.size | exact (pw_below_drewN G2.out.2 _).size)); have hz3 : B < w3.heap.size := blk_lt g3; obtain ⟨v0, v1, v2, v3, v4, v5, v6, v7, v8, v9, v10, v11, v12, v13, v14, v15⟩ := cells16 g3; clear y0 y1 y2 y3 y4 y5 y6 y7 y8 y9 y10 y11 y12 y13 y14 y15 hz2; have G3 := Lib.hid (And.intro g3 b3); clear g3 b3 hb2)
    | ((with_reducible refine gate_dst (N := 25) rfl ?_); (try (refine gate_guard (by rfl) ?_; dsimp only)); refine wpList_load_row rfl 39 (.tmp 1) rfl B rfl 39 #[.int .i64 a0_0, .int .i64 a0_1, .bool a0_2, .string a0_3, .int .i64 a0_4, .string a0_5, .string a0_6, .int .i64 a0_7, .int .i64 a0_8, .int .i64 (-1), .int .i64 0, .int .i64 0, .string (⟨#[]⟩ : ByteArray), .string (⟨#[]⟩ : ByteArray), .int .i64 0, .bool false] (0, 0) _ (by first | exact G5.out.1 | exact blk_drewN G5.out.1 _ | exact G4.out.1 | exact blk_drewN G4.out.1 _ | exact G3.out.1 | exact blk_drewN G3.out.1 _ | exact G2.out.1 | exact blk_drewN G2.out.1 _ | exact G1.out.1 | exact blk_drewN G1.out.1 _) Try.underlying39 rfl (by kernel_rfl) ?_)
    | (fail))
  go_ret
  exact ⟨by first | rfl | simp, by with_reducible first | exact G3.out.2 | exact pw_below_drewN G3.out.2 _ | exact pw_below_drewN (pw_below_drewN G3.out.2 _) _ | exact G3.out.2.alloc G3.out.2.size _ | exact pw_below_drewN (G3.out.2.alloc G3.out.2.size _) _⟩
theorem updateMay_any (a0_0 : Int) (a0_1 : Int) (a0_2 : Bool) (a0_3 : ByteArray) (a0_4 : Int) (a0_5 : ByteArray) (a0_6 : ByteArray) (a0_7 : Int) (a0_8 : Int) (a0_9 : Int) (a0_10 : Int) (a0_11 : Int) (a0_12 : ByteArray) (a0_13 : ByteArray) (a0_14 : Int) (a0_15 : Bool) (w : World) :
    Calls Try.prog 79 #[.agg #[.int .i64 a0_0, .int .i64 a0_1, .bool a0_2, .string a0_3, .int .i64 a0_4, .string a0_5, .string a0_6, .int .i64 a0_7, .int .i64 a0_8, .int .i64 a0_9, .int .i64 a0_10, .int .i64 a0_11, .string a0_12, .string a0_13, .int .i64 a0_14, .bool a0_15]] w fun e w' => e = .returned (.bool (updB a0_3 a0_4 a0_5 a0_6 a0_7 a0_9 a0_10 a0_11 a0_12 a0_13 a0_14 a0_15)) ∧ Below w.heap.size w w' := by
  obtain ⟨r, h2, hd⟩ := dl_any a0_4 a0_5 a0_6 a0_7
  have hq := fun W => linear_resultMay.calls a0_4 a0_5 a0_6 a0_7 a0_10 a0_11 _ W (res1 a0_4 a0_5 a0_6 a0_7 a0_10 a0_11)
  by_cases hr : r = 0
  · subst hr
    have ho := h2.1 rfl
    have hd0 := hd
    cases hk : (a0_3.toList == a0_5.toList) with
    | false =>
      exact (upd_k _ _ _ _ _ _ _ _ _ _ _ _ _ _ _ _ w hd0 hk).mono fun e w' h => ⟨h.1.trans (ret_b (by simp [updB, opZ, resZ, rowZ, e0_nil, ho, hk])), h.2⟩
    | true =>
      cases a0_15 with
      | false =>
        by_cases c_a0_12 : a0_12.toList = ([] : List UInt8)
        · obtain rfl : a0_12 = ⟨#[]⟩ := str_nil c_a0_12
          clear c_a0_12
          by_cases c_a0_13 : a0_13.toList = ([] : List UInt8)
          · obtain rfl : a0_13 = ⟨#[]⟩ := str_nil c_a0_13
            clear c_a0_13
            by_cases c_a0_14 : a0_14 = 0
            · subst c_a0_14
              by_cases c_a0_9 : a0_9 = (-1)
              · subst c_a0_9
                by_cases c_a0_10 : a0_10 = 0
                · subst c_a0_10
                  by_cases c_a0_11 : a0_11 = 0
                  · subst c_a0_11
                    exact (upd_nz _ _ _ _ _ _ _ _ _ w hd0 hk).mono fun e w' h => ⟨h.1.trans (ret_b (by simp [updB, opZ, resZ, rowZ, e0_nil, ho, hk])), h.2⟩
                  · exact (upd_n11 _ _ _ _ _ _ _ _ _ _ w hd0 hk (by simpa using c_a0_11)).mono fun e w' h => ⟨h.1.trans (ret_b (by simp [updB, opZ, resZ, rowZ, e0_nil, ho, hk, c_a0_11])), h.2⟩
                · exact (upd_n10 _ _ _ _ _ _ _ _ _ _ _ w hd0 hk (by simpa using c_a0_10)).mono fun e w' h => ⟨h.1.trans (ret_b (by simp [updB, opZ, resZ, rowZ, e0_nil, ho, hk, c_a0_10])), h.2⟩
              · exact (upd_e _ _ _ _ _ _ _ _ _ _ _ _ w hd0 hk (by simpa using c_a0_9) _ hq).mono fun e w' h => ⟨h.1.trans (ret_b (by simp [updB, opZ, resZ, rowZ, e0_nil, ho, hk, c_a0_9])), h.2⟩
            · exact (upd_w14 _ _ _ _ _ _ _ _ _ _ _ _ _ w hd0 hk (by simpa using c_a0_14)).mono fun e w' h => ⟨h.1.trans (ret_b (by simp [updB, opZ, resZ, rowZ, e0_nil, ho, hk, c_a0_14])), h.2⟩
          · exact (upd_w13 _ _ _ _ _ _ _ _ _ _ _ _ _ _ w hd0 hk (by simpa using c_a0_13)).mono fun e w' h => ⟨h.1.trans (ret_b (by simp [updB, opZ, resZ, rowZ, e0_nil, ho, hk, c_a0_13])), h.2⟩
        · exact (upd_w12 _ _ _ _ _ _ _ _ _ _ _ _ _ _ _ w hd0 hk (by simpa using c_a0_12)).mono fun e w' h => ⟨h.1.trans (ret_b (by simp [updB, opZ, resZ, rowZ, e0_nil, ho, hk, c_a0_12])), h.2⟩
      | true =>
        exact (upd_f _ _ _ _ _ _ _ _ _ _ _ _ _ _ _ w hd0 hk).mono fun e w' h => ⟨h.1.trans (ret_b (by simp [updB, opZ, resZ, rowZ, e0_nil, ho, hk])), h.2⟩
  · have ho : opB a0_4 a0_5 a0_6 a0_7 = false := by rw [Bool.eq_false_iff]; exact fun h => hr (h2.2 h)
    exact (upd_d _ _ _ _ _ _ _ _ _ _ _ _ _ _ _ _ w r hd (by simpa using hr)).mono fun e w' h => ⟨h.1.trans (ret_b (by simp [updB, opZ, resZ, rowZ, e0_nil, ho])), h.2⟩
/-! ### linear_callMay: function 41 -/
/-- May a call be? -/
def mayB16 (a0_0 : Int) (a0_1 : Int) (a0_2 : Bool) (a0_3 : ByteArray) (a0_4 : Int) (a0_5 : ByteArray) (a0_6 : ByteArray) (a0_7 : Int) (a0_8 : Int) (a0_9 : Int) (a0_10 : Int) (a0_11 : Int) (a0_12 : ByteArray) (a0_13 : ByteArray) (a0_14 : Int) (a0_15 : Bool) : Bool := wiB a0_0 1 16 && (wiB a0_1 1 1152921504606846976 && (!decide (a0_8 < 0) && ((a0_9 == -1 || !decide (a0_9 ≤ a0_8)) && (if a0_2 then readB a0_3 a0_4 a0_5 a0_6 a0_7 a0_9 a0_10 a0_11 a0_12 a0_13 a0_14 a0_15 else updB a0_3 a0_4 a0_5 a0_6 a0_7 a0_9 a0_10 a0_11 a0_12 a0_13 a0_14 a0_15))))
set_option maxRecDepth 100000 in
theorem call_c (a0_0 : Int) (a0_1 : Int) (a0_2 : Bool) (a0_3 : ByteArray) (a0_4 : Int) (a0_5 : ByteArray) (a0_6 : ByteArray) (a0_7 : Int) (a0_8 : Int) (a0_9 : Int) (a0_10 : Int) (a0_11 : Int) (a0_12 : ByteArray) (a0_13 : ByteArray) (a0_14 : Int) (a0_15 : Bool) (w : World) (h0 : wiB a0_0 1 16 = false) :
    Calls Try.prog 41 #[.agg #[.int .i64 a0_0, .int .i64 a0_1, .bool a0_2, .string a0_3, .int .i64 a0_4, .string a0_5, .string a0_6, .int .i64 a0_7, .int .i64 a0_8, .int .i64 a0_9, .int .i64 a0_10, .int .i64 a0_11, .string a0_12, .string a0_13, .int .i64 a0_14, .bool a0_15]] w fun e w' => e = .returned (.bool false) ∧ Below w.heap.size w w' := by
  have hu39 := Try.underlying39
  have hu32 := Try.underlying32
  have hu35 := Try.underlying35
  have hu37 := Try.underlying37
  have HW1 := Lib.hid (fun W => within_ax a0_0 1 16 false h0 W)
  clear h0
  go_enter Try.func41, Try.ntmps41
  go_upto_region 1 with (fail)
  obtain ⟨B, hB⟩ : ∃ B, RowKit.Hid (B = w.heap.size) := ⟨_, Lib.hid rfl⟩
  obtain ⟨W1, hW1⟩ : ∃ W1, w.alloc (.cells #[.int .i64 a0_0, .int .i64 a0_1, .bool a0_2, .string a0_3, .int .i64 a0_4, .string a0_5, .string a0_6, .int .i64 a0_7, .int .i64 a0_8, .int .i64 a0_9, .int .i64 a0_10, .int .i64 a0_11, .string a0_12, .string a0_13, .int .i64 a0_14, .bool a0_15] 39) = W1 := ⟨_, rfl⟩
  have g1 : W1.heap[B]? = some (.cells #[.int .i64 a0_0, .int .i64 a0_1, .bool a0_2, .string a0_3, .int .i64 a0_4, .string a0_5, .string a0_6, .int .i64 a0_7, .int .i64 a0_8, .int .i64 a0_9, .int .i64 a0_10, .int .i64 a0_11, .string a0_12, .string a0_13, .int .i64 a0_14, .bool a0_15] 39 (0, 0)) := by rw [← hW1, hB.out]; exact heap_alloc_new w _
  have b1 : Below w.heap.size w W1 := by rw [← hW1]; exact (Below.refl _ _).alloc (Nat.le_refl _) _
  rw [hW1, ← hB.out]
  clear hW1
  obtain ⟨z0, z1, z2, z3, z4, z5, z6, z7, z8, z9, z10, z11, z12, z13, z14, z15⟩ := cells16 g1
  have G1 := Lib.hid (And.intro g1 b1)
  clear g1 b1
  go_wp2_with (first
    | (go_at_call 70; ((with_reducible refine (HW1.out _).mono ?_)); rintro e w' ⟨rfl, ⟨nd, rfl⟩⟩)
    | (go_at_call 70; ((with_reducible refine (HW2.out _).mono ?_)); rintro e w' ⟨rfl, ⟨nd2, rfl⟩⟩)
    | (fail))
  go_ret
  exact ⟨by first | rfl | simp, by with_reducible first | exact G1.out.2 | exact pw_below_drewN G1.out.2 _ | exact pw_below_drewN (pw_below_drewN G1.out.2 _) _ | exact G1.out.2.alloc G1.out.2.size _ | exact pw_below_drewN (G1.out.2.alloc G1.out.2.size _) _⟩
set_option maxRecDepth 100000 in
theorem call_n (a0_0 : Int) (a0_1 : Int) (a0_2 : Bool) (a0_3 : ByteArray) (a0_4 : Int) (a0_5 : ByteArray) (a0_6 : ByteArray) (a0_7 : Int) (a0_8 : Int) (a0_9 : Int) (a0_10 : Int) (a0_11 : Int) (a0_12 : ByteArray) (a0_13 : ByteArray) (a0_14 : Int) (a0_15 : Bool) (w : World) (h0 : wiB a0_0 1 16 = true) (h1 : wiB a0_1 1 1152921504606846976 = false) :
    Calls Try.prog 41 #[.agg #[.int .i64 a0_0, .int .i64 a0_1, .bool a0_2, .string a0_3, .int .i64 a0_4, .string a0_5, .string a0_6, .int .i64 a0_7, .int .i64 a0_8, .int .i64 a0_9, .int .i64 a0_10, .int .i64 a0_11, .string a0_12, .string a0_13, .int .i64 a0_14, .bool a0_15]] w fun e w' => e = .returned (.bool false) ∧ Below w.heap.size w w' := by
  have hu39 := Try.underlying39
  have hu32 := Try.underlying32
  have hu35 := Try.underlying35
  have hu37 := Try.underlying37
  have HW1 := Lib.hid (fun W => within_ax a0_0 1 16 true h0 W)
  clear h0
  have HW2 := Lib.hid (fun W => within_ax a0_1 1 1152921504606846976 false h1 W)
  clear h1
  go_enter Try.func41, Try.ntmps41
  go_upto_region 1 with (fail)
  obtain ⟨B, hB⟩ : ∃ B, RowKit.Hid (B = w.heap.size) := ⟨_, Lib.hid rfl⟩
  obtain ⟨W1, hW1⟩ : ∃ W1, w.alloc (.cells #[.int .i64 a0_0, .int .i64 a0_1, .bool a0_2, .string a0_3, .int .i64 a0_4, .string a0_5, .string a0_6, .int .i64 a0_7, .int .i64 a0_8, .int .i64 a0_9, .int .i64 a0_10, .int .i64 a0_11, .string a0_12, .string a0_13, .int .i64 a0_14, .bool a0_15] 39) = W1 := ⟨_, rfl⟩
  have g1 : W1.heap[B]? = some (.cells #[.int .i64 a0_0, .int .i64 a0_1, .bool a0_2, .string a0_3, .int .i64 a0_4, .string a0_5, .string a0_6, .int .i64 a0_7, .int .i64 a0_8, .int .i64 a0_9, .int .i64 a0_10, .int .i64 a0_11, .string a0_12, .string a0_13, .int .i64 a0_14, .bool a0_15] 39 (0, 0)) := by rw [← hW1, hB.out]; exact heap_alloc_new w _
  have b1 : Below w.heap.size w W1 := by rw [← hW1]; exact (Below.refl _ _).alloc (Nat.le_refl _) _
  rw [hW1, ← hB.out]
  clear hW1
  obtain ⟨z0, z1, z2, z3, z4, z5, z6, z7, z8, z9, z10, z11, z12, z13, z14, z15⟩ := cells16 g1
  have G1 := Lib.hid (And.intro g1 b1)
  clear g1 b1
  go_wp2_with (first
    | (go_at_call 70; ((with_reducible refine (HW1.out _).mono ?_)); rintro e w' ⟨rfl, ⟨nd, rfl⟩⟩)
    | (go_at_call 70; ((with_reducible refine (HW2.out _).mono ?_)); rintro e w' ⟨rfl, ⟨nd2, rfl⟩⟩)
    | (fail))
  go_ret
  exact ⟨by first | rfl | simp, by with_reducible first | exact G1.out.2 | exact pw_below_drewN G1.out.2 _ | exact pw_below_drewN (pw_below_drewN G1.out.2 _) _ | exact G1.out.2.alloc G1.out.2.size _ | exact pw_below_drewN (G1.out.2.alloc G1.out.2.size _) _⟩
set_option maxRecDepth 100000 in
theorem call_b (a0_0 : Int) (a0_1 : Int) (a0_2 : Bool) (a0_3 : ByteArray) (a0_4 : Int) (a0_5 : ByteArray) (a0_6 : ByteArray) (a0_7 : Int) (a0_8 : Int) (a0_9 : Int) (a0_10 : Int) (a0_11 : Int) (a0_12 : ByteArray) (a0_13 : ByteArray) (a0_14 : Int) (a0_15 : Bool) (w : World) (h0 : wiB a0_0 1 16 = true) (h1 : wiB a0_1 1 1152921504606846976 = true) (h8 : decide (a0_8 < 0) = true) :
    Calls Try.prog 41 #[.agg #[.int .i64 a0_0, .int .i64 a0_1, .bool a0_2, .string a0_3, .int .i64 a0_4, .string a0_5, .string a0_6, .int .i64 a0_7, .int .i64 a0_8, .int .i64 a0_9, .int .i64 a0_10, .int .i64 a0_11, .string a0_12, .string a0_13, .int .i64 a0_14, .bool a0_15]] w fun e w' => e = .returned (.bool false) ∧ Below w.heap.size w w' := by
  have hu39 := Try.underlying39
  have hu32 := Try.underlying32
  have hu35 := Try.underlying35
  have hu37 := Try.underlying37
  have HW1 := Lib.hid (fun W => within_ax a0_0 1 16 true h0 W)
  clear h0
  have HW2 := Lib.hid (fun W => within_ax a0_1 1 1152921504606846976 true h1 W)
  clear h1
  go_enter Try.func41, Try.ntmps41
  go_upto_region 1 with (fail)
  obtain ⟨B, hB⟩ : ∃ B, RowKit.Hid (B = w.heap.size) := ⟨_, Lib.hid rfl⟩
  obtain ⟨W1, hW1⟩ : ∃ W1, w.alloc (.cells #[.int .i64 a0_0, .int .i64 a0_1, .bool a0_2, .string a0_3, .int .i64 a0_4, .string a0_5, .string a0_6, .int .i64 a0_7, .int .i64 a0_8, .int .i64 a0_9, .int .i64 a0_10, .int .i64 a0_11, .string a0_12, .string a0_13, .int .i64 a0_14, .bool a0_15] 39) = W1 := ⟨_, rfl⟩
  have g1 : W1.heap[B]? = some (.cells #[.int .i64 a0_0, .int .i64 a0_1, .bool a0_2, .string a0_3, .int .i64 a0_4, .string a0_5, .string a0_6, .int .i64 a0_7, .int .i64 a0_8, .int .i64 a0_9, .int .i64 a0_10, .int .i64 a0_11, .string a0_12, .string a0_13, .int .i64 a0_14, .bool a0_15] 39 (0, 0)) := by rw [← hW1, hB.out]; exact heap_alloc_new w _
  have b1 : Below w.heap.size w W1 := by rw [← hW1]; exact (Below.refl _ _).alloc (Nat.le_refl _) _
  rw [hW1, ← hB.out]
  clear hW1
  obtain ⟨z0, z1, z2, z3, z4, z5, z6, z7, z8, z9, z10, z11, z12, z13, z14, z15⟩ := cells16 g1
  have G1 := Lib.hid (And.intro g1 b1)
  clear g1 b1
  go_wp2_with (first
    | (go_at_call 70; ((with_reducible refine (HW1.out _).mono ?_)); rintro e w' ⟨rfl, ⟨nd, rfl⟩⟩)
    | (go_at_call 70; ((with_reducible refine (HW2.out _).mono ?_)); rintro e w' ⟨rfl, ⟨nd2, rfl⟩⟩)
    | (fail))
  go_ret
  exact ⟨by first | rfl | simp, by with_reducible first | exact G1.out.2 | exact pw_below_drewN G1.out.2 _ | exact pw_below_drewN (pw_below_drewN G1.out.2 _) _ | exact G1.out.2.alloc G1.out.2.size _ | exact pw_below_drewN (G1.out.2.alloc G1.out.2.size _) _⟩
set_option maxRecDepth 100000 in
theorem call_e (a0_0 : Int) (a0_1 : Int) (a0_2 : Bool) (a0_3 : ByteArray) (a0_4 : Int) (a0_5 : ByteArray) (a0_6 : ByteArray) (a0_7 : Int) (a0_8 : Int) (a0_9 : Int) (a0_10 : Int) (a0_11 : Int) (a0_12 : ByteArray) (a0_13 : ByteArray) (a0_14 : Int) (a0_15 : Bool) (w : World) (h0 : wiB a0_0 1 16 = true) (h1 : wiB a0_1 1 1152921504606846976 = true) (h8 : decide (a0_8 < 0) = false) (h9 : (a0_9 != -1) = true) (hl : decide (a0_9 ≤ a0_8) = true) :
    Calls Try.prog 41 #[.agg #[.int .i64 a0_0, .int .i64 a0_1, .bool a0_2, .string a0_3, .int .i64 a0_4, .string a0_5, .string a0_6, .int .i64 a0_7, .int .i64 a0_8, .int .i64 a0_9, .int .i64 a0_10, .int .i64 a0_11, .string a0_12, .string a0_13, .int .i64 a0_14, .bool a0_15]] w fun e w' => e = .returned (.bool false) ∧ Below w.heap.size w w' := by
  have hu39 := Try.underlying39
  have hu32 := Try.underlying32
  have hu35 := Try.underlying35
  have hu37 := Try.underlying37
  have HW1 := Lib.hid (fun W => within_ax a0_0 1 16 true h0 W)
  clear h0
  have HW2 := Lib.hid (fun W => within_ax a0_1 1 1152921504606846976 true h1 W)
  clear h1
  go_enter Try.func41, Try.ntmps41
  go_upto_region 1 with (fail)
  obtain ⟨B, hB⟩ : ∃ B, RowKit.Hid (B = w.heap.size) := ⟨_, Lib.hid rfl⟩
  obtain ⟨W1, hW1⟩ : ∃ W1, w.alloc (.cells #[.int .i64 a0_0, .int .i64 a0_1, .bool a0_2, .string a0_3, .int .i64 a0_4, .string a0_5, .string a0_6, .int .i64 a0_7, .int .i64 a0_8, .int .i64 a0_9, .int .i64 a0_10, .int .i64 a0_11, .string a0_12, .string a0_13, .int .i64 a0_14, .bool a0_15] 39) = W1 := ⟨_, rfl⟩
  have g1 : W1.heap[B]? = some (.cells #[.int .i64 a0_0, .int .i64 a0_1, .bool a0_2, .string a0_3, .int .i64 a0_4, .string a0_5, .string a0_6, .int .i64 a0_7, .int .i64 a0_8, .int .i64 a0_9, .int .i64 a0_10, .int .i64 a0_11, .string a0_12, .string a0_13, .int .i64 a0_14, .bool a0_15] 39 (0, 0)) := by rw [← hW1, hB.out]; exact heap_alloc_new w _
  have b1 : Below w.heap.size w W1 := by rw [← hW1]; exact (Below.refl _ _).alloc (Nat.le_refl _) _
  rw [hW1, ← hB.out]
  clear hW1
  obtain ⟨z0, z1, z2, z3, z4, z5, z6, z7, z8, z9, z10, z11, z12, z13, z14, z15⟩ := cells16 g1
  have G1 := Lib.hid (And.intro g1 b1)
  clear g1 b1
  go_wp2_with (first
    | (go_at_call 70; ((with_reducible refine (HW1.out _).mono ?_)); rintro e w' ⟨rfl, ⟨nd, rfl⟩⟩)
    | (go_at_call 70; ((with_reducible refine (HW2.out _).mono ?_)); rintro e w' ⟨rfl, ⟨nd2, rfl⟩⟩)
    | (fail))
  go_ret
  exact ⟨by first | rfl | simp, by with_reducible first | exact G1.out.2 | exact pw_below_drewN G1.out.2 _ | exact pw_below_drewN (pw_below_drewN G1.out.2 _) _ | exact G1.out.2.alloc G1.out.2.size _ | exact pw_below_drewN (G1.out.2.alloc G1.out.2.size _) _⟩
set_option maxRecDepth 100000 in
theorem call_zu (a0_0 : Int) (a0_1 : Int) (a0_3 : ByteArray) (a0_4 : Int) (a0_5 : ByteArray) (a0_6 : ByteArray) (a0_7 : Int) (a0_8 : Int) (a0_10 : Int) (a0_11 : Int) (a0_12 : ByteArray) (a0_13 : ByteArray) (a0_14 : Int) (a0_15 : Bool) (w : World) (h0 : wiB a0_0 1 16 = true) (h1 : wiB a0_1 1 1152921504606846976 = true) (h8 : decide (a0_8 < 0) = false) (b : Bool) (hq : ∀ W, Calls Try.prog 79 #[.agg #[.int .i64 a0_0, .int .i64 a0_1, .bool false, .string a0_3, .int .i64 a0_4, .string a0_5, .string a0_6, .int .i64 a0_7, .int .i64 a0_8, .int .i64 (-1), .int .i64 a0_10, .int .i64 a0_11, .string a0_12, .string a0_13, .int .i64 a0_14, .bool a0_15]] W fun e w' => e = .returned (.bool b) ∧ Below W.heap.size W w') :
    Calls Try.prog 41 #[.agg #[.int .i64 a0_0, .int .i64 a0_1, .bool false, .string a0_3, .int .i64 a0_4, .string a0_5, .string a0_6, .int .i64 a0_7, .int .i64 a0_8, .int .i64 (-1), .int .i64 a0_10, .int .i64 a0_11, .string a0_12, .string a0_13, .int .i64 a0_14, .bool a0_15]] w fun e w' => e = .returned (.bool b) ∧ Below w.heap.size w w' := by
  have hu39 := Try.underlying39
  have hu32 := Try.underlying32
  have hu35 := Try.underlying35
  have hu37 := Try.underlying37
  have HW1 := Lib.hid (fun W => within_ax a0_0 1 16 true h0 W)
  clear h0
  have HW2 := Lib.hid (fun W => within_ax a0_1 1 1152921504606846976 true h1 W)
  clear h1
  have HQ := Lib.hid hq
  clear hq
  go_enter Try.func41, Try.ntmps41
  go_upto_region 1 with (fail)
  obtain ⟨B, hB⟩ : ∃ B, RowKit.Hid (B = w.heap.size) := ⟨_, Lib.hid rfl⟩
  obtain ⟨W1, hW1⟩ : ∃ W1, w.alloc (.cells #[.int .i64 a0_0, .int .i64 a0_1, .bool false, .string a0_3, .int .i64 a0_4, .string a0_5, .string a0_6, .int .i64 a0_7, .int .i64 a0_8, .int .i64 (-1), .int .i64 a0_10, .int .i64 a0_11, .string a0_12, .string a0_13, .int .i64 a0_14, .bool a0_15] 39) = W1 := ⟨_, rfl⟩
  have g1 : W1.heap[B]? = some (.cells #[.int .i64 a0_0, .int .i64 a0_1, .bool false, .string a0_3, .int .i64 a0_4, .string a0_5, .string a0_6, .int .i64 a0_7, .int .i64 a0_8, .int .i64 (-1), .int .i64 a0_10, .int .i64 a0_11, .string a0_12, .string a0_13, .int .i64 a0_14, .bool a0_15] 39 (0, 0)) := by rw [← hW1, hB.out]; exact heap_alloc_new w _
  have b1 : Below w.heap.size w W1 := by rw [← hW1]; exact (Below.refl _ _).alloc (Nat.le_refl _) _
  rw [hW1, ← hB.out]
  clear hW1
  obtain ⟨z0, z1, z2, z3, z4, z5, z6, z7, z8, z9, z10, z11, z12, z13, z14, z15⟩ := cells16 g1
  have G1 := Lib.hid (And.intro g1 b1)
  clear g1 b1
  go_wp2_with (first
    | (go_at_call 79; refine (HQ.out _).mono ?_; rintro e w2 ⟨rfl, hb1⟩; have g2 := blk_below (by first | exact G1.out.1 | exact blk_drewN G1.out.1 _) hb1; have b2 : Below w.heap.size w w2 := (by first | exact G1.out.2 | exact pw_below_drewN G1.out.2 _ : Below w.heap.size w _).trans (hb1.mono (by first | exact G1.out.2.size | exact (pw_below_drewN G1.out.2 _).size)); have hz2 : B < w2.heap.size := blk_lt g2; obtain ⟨y0, y1, y2, y3, y4, y5, y6, y7, y8, y9, y10, y11, y12, y13, y14, y15⟩ := cells16 g2; clear z0 z1 z2 z3 z4 z5 z6 z7 z8 z9 z10 z11 z12 z13 z14 z15; have G2 := Lib.hid (And.intro g2 b2); clear g2 b2 hb1)
    | ((with_reducible refine gate_dst (N := 32) rfl ?_); (try (refine gate_guard (by rfl) ?_; dsimp only)); refine wpList_load_row rfl 39 (.tmp 1) rfl B rfl 39 #[.int .i64 a0_0, .int .i64 a0_1, .bool false, .string a0_3, .int .i64 a0_4, .string a0_5, .string a0_6, .int .i64 a0_7, .int .i64 a0_8, .int .i64 (-1), .int .i64 a0_10, .int .i64 a0_11, .string a0_12, .string a0_13, .int .i64 a0_14, .bool a0_15] (0, 0) _ (by first | exact G5.out.1 | exact blk_drewN G5.out.1 _ | exact G4.out.1 | exact blk_drewN G4.out.1 _ | exact G3.out.1 | exact blk_drewN G3.out.1 _ | exact G2.out.1 | exact blk_drewN G2.out.1 _ | exact G1.out.1 | exact blk_drewN G1.out.1 _) Try.underlying39 rfl (by kernel_rfl) ?_)
    | ((with_reducible refine gate_dst (N := 34) rfl ?_); (try (refine gate_guard (by rfl) ?_; dsimp only)); refine wpList_load_row rfl 39 (.tmp 1) rfl B rfl 39 #[.int .i64 a0_0, .int .i64 a0_1, .bool false, .string a0_3, .int .i64 a0_4, .string a0_5, .string a0_6, .int .i64 a0_7, .int .i64 a0_8, .int .i64 (-1), .int .i64 a0_10, .int .i64 a0_11, .string a0_12, .string a0_13, .int .i64 a0_14, .bool a0_15] (0, 0) _ (by first | exact G5.out.1 | exact blk_drewN G5.out.1 _ | exact G4.out.1 | exact blk_drewN G4.out.1 _ | exact G3.out.1 | exact blk_drewN G3.out.1 _ | exact G2.out.1 | exact blk_drewN G2.out.1 _ | exact G1.out.1 | exact blk_drewN G1.out.1 _) Try.underlying39 rfl (by kernel_rfl) ?_)
    | (go_at_call 70; ((with_reducible refine (HW1.out _).mono ?_)); rintro e w' ⟨rfl, ⟨nd, rfl⟩⟩)
    | (go_at_call 70; ((with_reducible refine (HW2.out _).mono ?_)); rintro e w' ⟨rfl, ⟨nd2, rfl⟩⟩)
    | (fail))
  go_ret
  exact ⟨by first | rfl | simp, by with_reducible first | exact G2.out.2 | exact pw_below_drewN G2.out.2 _ | exact pw_below_drewN (pw_below_drewN G2.out.2 _) _ | exact G2.out.2.alloc G2.out.2.size _ | exact pw_below_drewN (G2.out.2.alloc G2.out.2.size _) _⟩
set_option maxRecDepth 100000 in
theorem call_zr (a0_0 : Int) (a0_1 : Int) (a0_3 : ByteArray) (a0_4 : Int) (a0_5 : ByteArray) (a0_6 : ByteArray) (a0_7 : Int) (a0_8 : Int) (a0_10 : Int) (a0_11 : Int) (a0_12 : ByteArray) (a0_13 : ByteArray) (a0_14 : Int) (a0_15 : Bool) (w : World) (h0 : wiB a0_0 1 16 = true) (h1 : wiB a0_1 1 1152921504606846976 = true) (h8 : decide (a0_8 < 0) = false) (b : Bool) (hq : ∀ W, Calls Try.prog 78 #[.agg #[.int .i64 a0_0, .int .i64 a0_1, .bool true, .string a0_3, .int .i64 a0_4, .string a0_5, .string a0_6, .int .i64 a0_7, .int .i64 a0_8, .int .i64 (-1), .int .i64 a0_10, .int .i64 a0_11, .string a0_12, .string a0_13, .int .i64 a0_14, .bool a0_15]] W fun e w' => e = .returned (.bool b) ∧ Below W.heap.size W w') :
    Calls Try.prog 41 #[.agg #[.int .i64 a0_0, .int .i64 a0_1, .bool true, .string a0_3, .int .i64 a0_4, .string a0_5, .string a0_6, .int .i64 a0_7, .int .i64 a0_8, .int .i64 (-1), .int .i64 a0_10, .int .i64 a0_11, .string a0_12, .string a0_13, .int .i64 a0_14, .bool a0_15]] w fun e w' => e = .returned (.bool b) ∧ Below w.heap.size w w' := by
  have hu39 := Try.underlying39
  have hu32 := Try.underlying32
  have hu35 := Try.underlying35
  have hu37 := Try.underlying37
  have HW1 := Lib.hid (fun W => within_ax a0_0 1 16 true h0 W)
  clear h0
  have HW2 := Lib.hid (fun W => within_ax a0_1 1 1152921504606846976 true h1 W)
  clear h1
  have HQ := Lib.hid hq
  clear hq
  go_enter Try.func41, Try.ntmps41
  go_upto_region 1 with (fail)
  obtain ⟨B, hB⟩ : ∃ B, RowKit.Hid (B = w.heap.size) := ⟨_, Lib.hid rfl⟩
  obtain ⟨W1, hW1⟩ : ∃ W1, w.alloc (.cells #[.int .i64 a0_0, .int .i64 a0_1, .bool true, .string a0_3, .int .i64 a0_4, .string a0_5, .string a0_6, .int .i64 a0_7, .int .i64 a0_8, .int .i64 (-1), .int .i64 a0_10, .int .i64 a0_11, .string a0_12, .string a0_13, .int .i64 a0_14, .bool a0_15] 39) = W1 := ⟨_, rfl⟩
  have g1 : W1.heap[B]? = some (.cells #[.int .i64 a0_0, .int .i64 a0_1, .bool true, .string a0_3, .int .i64 a0_4, .string a0_5, .string a0_6, .int .i64 a0_7, .int .i64 a0_8, .int .i64 (-1), .int .i64 a0_10, .int .i64 a0_11, .string a0_12, .string a0_13, .int .i64 a0_14, .bool a0_15] 39 (0, 0)) := by rw [← hW1, hB.out]; exact heap_alloc_new w _
  have b1 : Below w.heap.size w W1 := by rw [← hW1]; exact (Below.refl _ _).alloc (Nat.le_refl _) _
  rw [hW1, ← hB.out]
  clear hW1
  obtain ⟨z0, z1, z2, z3, z4, z5, z6, z7, z8, z9, z10, z11, z12, z13, z14, z15⟩ := cells16 g1
  have G1 := Lib.hid (And.intro g1 b1)
  clear g1 b1
  go_wp2_with (first
    | (go_at_call 78; refine (HQ.out _).mono ?_; rintro e w2 ⟨rfl, hb1⟩; have g2 := blk_below (by first | exact G1.out.1 | exact blk_drewN G1.out.1 _) hb1; have b2 : Below w.heap.size w w2 := (by first | exact G1.out.2 | exact pw_below_drewN G1.out.2 _ : Below w.heap.size w _).trans (hb1.mono (by first | exact G1.out.2.size | exact (pw_below_drewN G1.out.2 _).size)); have hz2 : B < w2.heap.size := blk_lt g2; obtain ⟨y0, y1, y2, y3, y4, y5, y6, y7, y8, y9, y10, y11, y12, y13, y14, y15⟩ := cells16 g2; clear z0 z1 z2 z3 z4 z5 z6 z7 z8 z9 z10 z11 z12 z13 z14 z15; have G2 := Lib.hid (And.intro g2 b2); clear g2 b2 hb1)
    | ((with_reducible refine gate_dst (N := 32) rfl ?_); (try (refine gate_guard (by rfl) ?_; dsimp only)); refine wpList_load_row rfl 39 (.tmp 1) rfl B rfl 39 #[.int .i64 a0_0, .int .i64 a0_1, .bool true, .string a0_3, .int .i64 a0_4, .string a0_5, .string a0_6, .int .i64 a0_7, .int .i64 a0_8, .int .i64 (-1), .int .i64 a0_10, .int .i64 a0_11, .string a0_12, .string a0_13, .int .i64 a0_14, .bool a0_15] (0, 0) _ (by first | exact G5.out.1 | exact blk_drewN G5.out.1 _ | exact G4.out.1 | exact blk_drewN G4.out.1 _ | exact G3.out.1 | exact blk_drewN G3.out.1 _ | exact G2.out.1 | exact blk_drewN G2.out.1 _ | exact G1.out.1 | exact blk_drewN G1.out.1 _) Try.underlying39 rfl (by kernel_rfl) ?_)
    | ((with_reducible refine gate_dst (N := 34) rfl ?_); (try (refine gate_guard (by rfl) ?_; dsimp only)); refine wpList_load_row rfl 39 (.tmp 1) rfl B rfl 39 #[.int .i64 a0_0, .int .i64 a0_1, .bool true, .string a0_3, .int .i64 a0_4, .string a0_5, .string a0_6, .int .i64 a0_7, .int .i64 a0_8, .int .i64 (-1), .int .i64 a0_10, .int .i64 a0_11, .string a0_12, .string a0_13, .int .i64 a0_14, .bool a0_15] (0, 0) _ (by first | exact G5.out.1 | exact blk_drewN G5.out.1 _ | exact G4.out.1 | exact blk_drewN G4.out.1 _ | exact G3.out.1 | exact blk_drewN G3.out.1 _ | exact G2.out.1 | exact blk_drewN G2.out.1 _ | exact G1.out.1 | exact blk_drewN G1.out.1 _) Try.underlying39 rfl (by kernel_rfl) ?_)
    | (go_at_call 70; ((with_reducible refine (HW1.out _).mono ?_)); rintro e w' ⟨rfl, ⟨nd, rfl⟩⟩)
    | (go_at_call 70; ((with_reducible refine (HW2.out _).mono ?_)); rintro e w' ⟨rfl, ⟨nd2, rfl⟩⟩)
    | (fail))
  go_ret
  exact ⟨by first | rfl | simp, by with_reducible first | exact G2.out.2 | exact pw_below_drewN G2.out.2 _ | exact pw_below_drewN (pw_below_drewN G2.out.2 _) _ | exact G2.out.2.alloc G2.out.2.size _ | exact pw_below_drewN (G2.out.2.alloc G2.out.2.size _) _⟩
set_option maxRecDepth 100000 in
theorem call_eu (a0_0 : Int) (a0_1 : Int) (a0_3 : ByteArray) (a0_4 : Int) (a0_5 : ByteArray) (a0_6 : ByteArray) (a0_7 : Int) (a0_8 : Int) (a0_9 : Int) (a0_10 : Int) (a0_11 : Int) (a0_12 : ByteArray) (a0_13 : ByteArray) (a0_14 : Int) (a0_15 : Bool) (w : World) (h0 : wiB a0_0 1 16 = true) (h1 : wiB a0_1 1 1152921504606846976 = true) (h8 : decide (a0_8 < 0) = false) (h9 : (a0_9 != -1) = true) (hl : decide (a0_9 ≤ a0_8) = false) (b : Bool) (hq : ∀ W, Calls Try.prog 79 #[.agg #[.int .i64 a0_0, .int .i64 a0_1, .bool false, .string a0_3, .int .i64 a0_4, .string a0_5, .string a0_6, .int .i64 a0_7, .int .i64 a0_8, .int .i64 a0_9, .int .i64 a0_10, .int .i64 a0_11, .string a0_12, .string a0_13, .int .i64 a0_14, .bool a0_15]] W fun e w' => e = .returned (.bool b) ∧ Below W.heap.size W w') :
    Calls Try.prog 41 #[.agg #[.int .i64 a0_0, .int .i64 a0_1, .bool false, .string a0_3, .int .i64 a0_4, .string a0_5, .string a0_6, .int .i64 a0_7, .int .i64 a0_8, .int .i64 a0_9, .int .i64 a0_10, .int .i64 a0_11, .string a0_12, .string a0_13, .int .i64 a0_14, .bool a0_15]] w fun e w' => e = .returned (.bool b) ∧ Below w.heap.size w w' := by
  have hu39 := Try.underlying39
  have hu32 := Try.underlying32
  have hu35 := Try.underlying35
  have hu37 := Try.underlying37
  have HW1 := Lib.hid (fun W => within_ax a0_0 1 16 true h0 W)
  clear h0
  have HW2 := Lib.hid (fun W => within_ax a0_1 1 1152921504606846976 true h1 W)
  clear h1
  have HQ := Lib.hid hq
  clear hq
  go_enter Try.func41, Try.ntmps41
  go_upto_region 1 with (fail)
  obtain ⟨B, hB⟩ : ∃ B, RowKit.Hid (B = w.heap.size) := ⟨_, Lib.hid rfl⟩
  obtain ⟨W1, hW1⟩ : ∃ W1, w.alloc (.cells #[.int .i64 a0_0, .int .i64 a0_1, .bool false, .string a0_3, .int .i64 a0_4, .string a0_5, .string a0_6, .int .i64 a0_7, .int .i64 a0_8, .int .i64 a0_9, .int .i64 a0_10, .int .i64 a0_11, .string a0_12, .string a0_13, .int .i64 a0_14, .bool a0_15] 39) = W1 := ⟨_, rfl⟩
  have g1 : W1.heap[B]? = some (.cells #[.int .i64 a0_0, .int .i64 a0_1, .bool false, .string a0_3, .int .i64 a0_4, .string a0_5, .string a0_6, .int .i64 a0_7, .int .i64 a0_8, .int .i64 a0_9, .int .i64 a0_10, .int .i64 a0_11, .string a0_12, .string a0_13, .int .i64 a0_14, .bool a0_15] 39 (0, 0)) := by rw [← hW1, hB.out]; exact heap_alloc_new w _
  have b1 : Below w.heap.size w W1 := by rw [← hW1]; exact (Below.refl _ _).alloc (Nat.le_refl _) _
  rw [hW1, ← hB.out]
  clear hW1
  obtain ⟨z0, z1, z2, z3, z4, z5, z6, z7, z8, z9, z10, z11, z12, z13, z14, z15⟩ := cells16 g1
  have G1 := Lib.hid (And.intro g1 b1)
  clear g1 b1
  go_wp2_with (first
    | (go_at_call 79; refine (HQ.out _).mono ?_; rintro e w2 ⟨rfl, hb1⟩; have g2 := blk_below (by first | exact G1.out.1 | exact blk_drewN G1.out.1 _) hb1; have b2 : Below w.heap.size w w2 := (by first | exact G1.out.2 | exact pw_below_drewN G1.out.2 _ : Below w.heap.size w _).trans (hb1.mono (by first | exact G1.out.2.size | exact (pw_below_drewN G1.out.2 _).size)); have hz2 : B < w2.heap.size := blk_lt g2; obtain ⟨y0, y1, y2, y3, y4, y5, y6, y7, y8, y9, y10, y11, y12, y13, y14, y15⟩ := cells16 g2; clear z0 z1 z2 z3 z4 z5 z6 z7 z8 z9 z10 z11 z12 z13 z14 z15; have G2 := Lib.hid (And.intro g2 b2); clear g2 b2 hb1)
    | ((with_reducible refine gate_dst (N := 32) rfl ?_); (try (refine gate_guard (by rfl) ?_; dsimp only)); refine wpList_load_row rfl 39 (.tmp 1) rfl B rfl 39 #[.int .i64 a0_0, .int .i64 a0_1, .bool false, .string a0_3, .int .i64 a0_4, .string a0_5, .string a0_6, .int .i64 a0_7, .int .i64 a0_8, .int .i64 a0_9, .int .i64 a0_10, .int .i64 a0_11, .string a0_12, .string a0_13, .int .i64 a0_14, .bool a0_15] (0, 0) _ (by first | exact G5.out.1 | exact blk_drewN G5.out.1 _ | exact G4.out.1 | exact blk_drewN G4.out.1 _ | exact G3.out.1 | exact blk_drewN G3.out.1 _ | exact G2.out.1 | exact blk_drewN G2.out.1 _ | exact G1.out.1 | exact blk_drewN G1.out.1 _) Try.underlying39 rfl (by kernel_rfl) ?_)
    | ((with_reducible refine gate_dst (N := 34) rfl ?_); (try (refine gate_guard (by rfl) ?_; dsimp only)); refine wpList_load_row rfl 39 (.tmp 1) rfl B rfl 39 #[.int .i64 a0_0, .int .i64 a0_1, .bool false, .string a0_3, .int .i64 a0_4, .string a0_5, .string a0_6, .int .i64 a0_7, .int .i64 a0_8, .int .i64 a0_9, .int .i64 a0_10, .int .i64 a0_11, .string a0_12, .string a0_13, .int .i64 a0_14, .bool a0_15] (0, 0) _ (by first | exact G5.out.1 | exact blk_drewN G5.out.1 _ | exact G4.out.1 | exact blk_drewN G4.out.1 _ | exact G3.out.1 | exact blk_drewN G3.out.1 _ | exact G2.out.1 | exact blk_drewN G2.out.1 _ | exact G1.out.1 | exact blk_drewN G1.out.1 _) Try.underlying39 rfl (by kernel_rfl) ?_)
    | (go_at_call 70; ((with_reducible refine (HW1.out _).mono ?_)); rintro e w' ⟨rfl, ⟨nd, rfl⟩⟩)
    | (go_at_call 70; ((with_reducible refine (HW2.out _).mono ?_)); rintro e w' ⟨rfl, ⟨nd2, rfl⟩⟩)
    | (fail))
  go_ret
  exact ⟨by first | rfl | simp, by with_reducible first | exact G2.out.2 | exact pw_below_drewN G2.out.2 _ | exact pw_below_drewN (pw_below_drewN G2.out.2 _) _ | exact G2.out.2.alloc G2.out.2.size _ | exact pw_below_drewN (G2.out.2.alloc G2.out.2.size _) _⟩
set_option maxRecDepth 100000 in
theorem call_er (a0_0 : Int) (a0_1 : Int) (a0_3 : ByteArray) (a0_4 : Int) (a0_5 : ByteArray) (a0_6 : ByteArray) (a0_7 : Int) (a0_8 : Int) (a0_9 : Int) (a0_10 : Int) (a0_11 : Int) (a0_12 : ByteArray) (a0_13 : ByteArray) (a0_14 : Int) (a0_15 : Bool) (w : World) (h0 : wiB a0_0 1 16 = true) (h1 : wiB a0_1 1 1152921504606846976 = true) (h8 : decide (a0_8 < 0) = false) (h9 : (a0_9 != -1) = true) (hl : decide (a0_9 ≤ a0_8) = false) (b : Bool) (hq : ∀ W, Calls Try.prog 78 #[.agg #[.int .i64 a0_0, .int .i64 a0_1, .bool true, .string a0_3, .int .i64 a0_4, .string a0_5, .string a0_6, .int .i64 a0_7, .int .i64 a0_8, .int .i64 a0_9, .int .i64 a0_10, .int .i64 a0_11, .string a0_12, .string a0_13, .int .i64 a0_14, .bool a0_15]] W fun e w' => e = .returned (.bool b) ∧ Below W.heap.size W w') :
    Calls Try.prog 41 #[.agg #[.int .i64 a0_0, .int .i64 a0_1, .bool true, .string a0_3, .int .i64 a0_4, .string a0_5, .string a0_6, .int .i64 a0_7, .int .i64 a0_8, .int .i64 a0_9, .int .i64 a0_10, .int .i64 a0_11, .string a0_12, .string a0_13, .int .i64 a0_14, .bool a0_15]] w fun e w' => e = .returned (.bool b) ∧ Below w.heap.size w w' := by
  have hu39 := Try.underlying39
  have hu32 := Try.underlying32
  have hu35 := Try.underlying35
  have hu37 := Try.underlying37
  have HW1 := Lib.hid (fun W => within_ax a0_0 1 16 true h0 W)
  clear h0
  have HW2 := Lib.hid (fun W => within_ax a0_1 1 1152921504606846976 true h1 W)
  clear h1
  have HQ := Lib.hid hq
  clear hq
  go_enter Try.func41, Try.ntmps41
  go_upto_region 1 with (fail)
  obtain ⟨B, hB⟩ : ∃ B, RowKit.Hid (B = w.heap.size) := ⟨_, Lib.hid rfl⟩
  obtain ⟨W1, hW1⟩ : ∃ W1, w.alloc (.cells #[.int .i64 a0_0, .int .i64 a0_1, .bool true, .string a0_3, .int .i64 a0_4, .string a0_5, .string a0_6, .int .i64 a0_7, .int .i64 a0_8, .int .i64 a0_9, .int .i64 a0_10, .int .i64 a0_11, .string a0_12, .string a0_13, .int .i64 a0_14, .bool a0_15] 39) = W1 := ⟨_, rfl⟩
  have g1 : W1.heap[B]? = some (.cells #[.int .i64 a0_0, .int .i64 a0_1, .bool true, .string a0_3, .int .i64 a0_4, .string a0_5, .string a0_6, .int .i64 a0_7, .int .i64 a0_8, .int .i64 a0_9, .int .i64 a0_10, .int .i64 a0_11, .string a0_12, .string a0_13, .int .i64 a0_14, .bool a0_15] 39 (0, 0)) := by rw [← hW1, hB.out]; exact heap_alloc_new w _
  have b1 : Below w.heap.size w W1 := by rw [← hW1]; exact (Below.refl _ _).alloc (Nat.le_refl _) _
  rw [hW1, ← hB.out]
  clear hW1
  obtain ⟨z0, z1, z2, z3, z4, z5, z6, z7, z8, z9, z10, z11, z12, z13, z14, z15⟩ := cells16 g1
  have G1 := Lib.hid (And.intro g1 b1)
  clear g1 b1
  go_wp2_with (first
    | (go_at_call 78; refine (HQ.out _).mono ?_; rintro e w2 ⟨rfl, hb1⟩; have g2 := blk_below (by first | exact G1.out.1 | exact blk_drewN G1.out.1 _) hb1; have b2 : Below w.heap.size w w2 := (by first | exact G1.out.2 | exact pw_below_drewN G1.out.2 _ : Below w.heap.size w _).trans (hb1.mono (by first | exact G1.out.2.size | exact (pw_below_drewN G1.out.2 _).size)); have hz2 : B < w2.heap.size := blk_lt g2; obtain ⟨y0, y1, y2, y3, y4, y5, y6, y7, y8, y9, y10, y11, y12, y13, y14, y15⟩ := cells16 g2; clear z0 z1 z2 z3 z4 z5 z6 z7 z8 z9 z10 z11 z12 z13 z14 z15; have G2 := Lib.hid (And.intro g2 b2); clear g2 b2 hb1)
    | ((with_reducible refine gate_dst (N := 32) rfl ?_); (try (refine gate_guard (by rfl) ?_; dsimp only)); refine wpList_load_row rfl 39 (.tmp 1) rfl B rfl 39 #[.int .i64 a0_0, .int .i64 a0_1, .bool true, .string a0_3, .int .i64 a0_4, .string a0_5, .string a0_6, .int .i64 a0_7, .int .i64 a0_8, .int .i64 a0_9, .int .i64 a0_10, .int .i64 a0_11, .string a0_12, .string a0_13, .int .i64 a0_14, .bool a0_15] (0, 0) _ (by first | exact G5.out.1 | exact blk_drewN G5.out.1 _ | exact G4.out.1 | exact blk_drewN G4.out.1 _ | exact G3.out.1 | exact blk_drewN G3.out.1 _ | exact G2.out.1 | exact blk_drewN G2.out.1 _ | exact G1.out.1 | exact blk_drewN G1.out.1 _) Try.underlying39 rfl (by kernel_rfl) ?_)
    | ((with_reducible refine gate_dst (N := 34) rfl ?_); (try (refine gate_guard (by rfl) ?_; dsimp only)); refine wpList_load_row rfl 39 (.tmp 1) rfl B rfl 39 #[.int .i64 a0_0, .int .i64 a0_1, .bool true, .string a0_3, .int .i64 a0_4, .string a0_5, .string a0_6, .int .i64 a0_7, .int .i64 a0_8, .int .i64 a0_9, .int .i64 a0_10, .int .i64 a0_11, .string a0_12, .string a0_13, .int .i64 a0_14, .bool a0_15] (0, 0) _ (by first | exact G5.out.1 | exact blk_drewN G5.out.1 _ | exact G4.out.1 | exact blk_drewN G4.out.1 _ | exact G3.out.1 | exact blk_drewN G3.out.1 _ | exact G2.out.1 | exact blk_drewN G2.out.1 _ | exact G1.out.1 | exact blk_drewN G1.out.1 _) Try.underlying39 rfl (by kernel_rfl) ?_)
    | (go_at_call 70; ((with_reducible refine (HW1.out _).mono ?_)); rintro e w' ⟨rfl, ⟨nd, rfl⟩⟩)
    | (go_at_call 70; ((with_reducible refine (HW2.out _).mono ?_)); rintro e w' ⟨rfl, ⟨nd2, rfl⟩⟩)
    | (fail))
  go_ret
  exact ⟨by first | rfl | simp, by with_reducible first | exact G2.out.2 | exact pw_below_drewN G2.out.2 _ | exact pw_below_drewN (pw_below_drewN G2.out.2 _) _ | exact G2.out.2.alloc G2.out.2.size _ | exact pw_below_drewN (G2.out.2.alloc G2.out.2.size _) _⟩
theorem callMay_any (a0_0 : Int) (a0_1 : Int) (a0_2 : Bool) (a0_3 : ByteArray) (a0_4 : Int) (a0_5 : ByteArray) (a0_6 : ByteArray) (a0_7 : Int) (a0_8 : Int) (a0_9 : Int) (a0_10 : Int) (a0_11 : Int) (a0_12 : ByteArray) (a0_13 : ByteArray) (a0_14 : Int) (a0_15 : Bool) (w : World) :
    Calls Try.prog 41 #[.agg #[.int .i64 a0_0, .int .i64 a0_1, .bool a0_2, .string a0_3, .int .i64 a0_4, .string a0_5, .string a0_6, .int .i64 a0_7, .int .i64 a0_8, .int .i64 a0_9, .int .i64 a0_10, .int .i64 a0_11, .string a0_12, .string a0_13, .int .i64 a0_14, .bool a0_15]] w fun e w' => e = .returned (.bool (mayB16 a0_0 a0_1 a0_2 a0_3 a0_4 a0_5 a0_6 a0_7 a0_8 a0_9 a0_10 a0_11 a0_12 a0_13 a0_14 a0_15)) ∧ Below w.heap.size w w' := by
  cases h0 : wiB a0_0 1 16 with
  | false =>
    exact (call_c _ _ _ _ _ _ _ _ _ _ _ _ _ _ _ _ w h0).mono fun e w' h => ⟨h.1.trans (ret_b (by simp [mayB16, h0])), h.2⟩
  | true =>
    cases h1 : wiB a0_1 1 1152921504606846976 with
    | false =>
      exact (call_n _ _ _ _ _ _ _ _ _ _ _ _ _ _ _ _ w h0 h1).mono fun e w' h => ⟨h.1.trans (ret_b (by simp [mayB16, h0, h1])), h.2⟩
    | true =>
      cases h8 : decide (a0_8 < 0) with
      | false =>
        by_cases c_a0_9 : a0_9 = (-1)
        · subst c_a0_9
          cases a0_2 with
          | false =>
            exact (call_zu _ _ _ _ _ _ _ _ _ _ _ _ _ _ w h0 h1 h8 _ (fun W => updateMay_any a0_0 a0_1 (false) a0_3 a0_4 a0_5 a0_6 a0_7 a0_8 (-1) a0_10 a0_11 a0_12 a0_13 a0_14 a0_15 W)).mono fun e w' h => ⟨h.1.trans (ret_b (by simp [mayB16, h0, h1, h8])), h.2⟩
          | true =>
            exact (call_zr _ _ _ _ _ _ _ _ _ _ _ _ _ _ w h0 h1 h8 _ (fun W => readMay_any a0_0 a0_1 (true) a0_3 a0_4 a0_5 a0_6 a0_7 a0_8 (-1) a0_10 a0_11 a0_12 a0_13 a0_14 a0_15 W)).mono fun e w' h => ⟨h.1.trans (ret_b (by simp [mayB16, h0, h1, h8])), h.2⟩
        · cases hl : decide (a0_9 ≤ a0_8) with
          | false =>
            cases a0_2 with
            | false =>
              exact (call_eu _ _ _ _ _ _ _ _ _ _ _ _ _ _ _ w h0 h1 h8 (by simpa using c_a0_9) hl _ (fun W => updateMay_any a0_0 a0_1 (false) a0_3 a0_4 a0_5 a0_6 a0_7 a0_8 a0_9 a0_10 a0_11 a0_12 a0_13 a0_14 a0_15 W)).mono fun e w' h => ⟨h.1.trans (ret_b (by simp [mayB16, h0, h1, h8, c_a0_9, hl])), h.2⟩
            | true =>
              exact (call_er _ _ _ _ _ _ _ _ _ _ _ _ _ _ _ w h0 h1 h8 (by simpa using c_a0_9) hl _ (fun W => readMay_any a0_0 a0_1 (true) a0_3 a0_4 a0_5 a0_6 a0_7 a0_8 a0_9 a0_10 a0_11 a0_12 a0_13 a0_14 a0_15 W)).mono fun e w' h => ⟨h.1.trans (ret_b (by simp [mayB16, h0, h1, h8, c_a0_9, hl])), h.2⟩
          | true =>
            exact (call_e _ _ _ _ _ _ _ _ _ _ _ _ _ _ _ _ w h0 h1 h8 (by simpa using c_a0_9) hl).mono fun e w' h => ⟨h.1.trans (ret_b (by simp [mayB16, h0, h1, h8, c_a0_9, hl])), h.2⟩
      | true =>
        exact (call_b _ _ _ _ _ _ _ _ _ _ _ _ _ _ _ _ w h0 h1 h8).mono fun e w' h => ⟨h.1.trans (ret_b (by simp [mayB16, h0, h1, h8])), h.2⟩
-- NOT PRINTED: function 16 (linear_Check)

/-! ### hawserref26_answered: function 44 -/
/-! ### hawserref08_IsUser: function 83 -/
def hawserref08_IsUser.f (a0 : ByteArray) : Option (Bool) := if (a0.size : Int) ≥ 1 then (if (a0.size : Int) ≤ 1024 then (if 0 < (a0.size : Int) then (some ((bt a0 0) != 0)) else (none)) else (some false)) else (some false)
set_option maxHeartbeats 8000000 in
set_option maxRecDepth 100000 in
theorem hawserref08_IsUser.calls (a0 : ByteArray) (r : Bool) (w : World) (h : hawserref08_IsUser.f a0 = some r) :
    Calls Try.prog 83 #[.string a0] w fun e w' => e = .returned (.bool r) ∧ Drawn0 w w' := by
  have H : (if (a0.size : Int) ≥ 1 then (if (a0.size : Int) ≤ 1024 then (if 0 < (a0.size : Int) then (some ((bt a0 0) != 0)) else (none)) else (some false)) else (some false)) = some r := h
  clear h
  by_cases c2 : (a0.size : Int) ≥ 1
  · rw [if_pos c2] at H
    have c2b0 : decide (1 ≤ (a0.size : Int)) = true := decide_eq_true c2
    have c2b1 : decide (1 ≤ a0.size) = true := decide_eq_true (by omega)
    clear c2
    by_cases c3 : (a0.size : Int) ≤ 1024
    · rw [if_pos c3] at H
      have c3b0 : decide ((a0.size : Int) ≤ 1024) = true := decide_eq_true c3
      have c3b1 : decide (a0.size ≤ 1024) = true := decide_eq_true (by omega)
      clear c3
      by_cases c4 : 0 < (a0.size : Int)
      · rw [if_pos c4] at H
        have c4b0 : decide (0 < (a0.size : Int)) = true := decide_eq_true c4
        have c4b1 : decide (0 < a0.size) = true := decide_eq_true (by omega)
        clear c4
        obtain rfl := Option.some.inj H
        have p5 : 0 ≤ (0 : Int) := (by omega)
        have q5 : 0 < a0.size := (by have : (0 : Int) < (a0.size : Int) := of_decide_eq_true (by first | (with_reducible assumption) | assumption); omega)
        have hx5 : ∀ h : 0 < a0.size, ((a0[0]'h).toNat : Int) = bt a0 0 := bt_at a0 0
        clear p5
        have qi5 : (0 < (a0.size : Int)) = True := eq_true (of_decide_eq_true (by first | (with_reducible assumption) | assumption))
        replace q5 := eq_true q5
        go_enter Try.func83, Try.ntmps83
        go_wp2
        go_ret
        exact ⟨by first | rfl | (simp; done) | (simp [*]; done), by repeat (first | exact Drawn0.refl _ | apply Drawn0.step)⟩
      · rw [if_neg c4] at H
        exact absurd H (by simp)
    · rw [if_neg c3] at H
      have c3b0 : decide ((a0.size : Int) ≤ 1024) = false := decide_eq_false c3
      have c3b1 : decide (a0.size ≤ 1024) = false := decide_eq_false (by omega)
      clear c3
      obtain rfl := Option.some.inj H
      go_enter Try.func83, Try.ntmps83
      go_wp2
      go_ret
      exact ⟨by first | rfl | (simp; done) | (simp [*]; done), by repeat (first | exact Drawn0.refl _ | apply Drawn0.step)⟩
  · rw [if_neg c2] at H
    have c2b0 : decide (1 ≤ (a0.size : Int)) = false := decide_eq_false c2
    have c2b1 : decide (1 ≤ a0.size) = false := decide_eq_false (by omega)
    clear c2
    obtain rfl := Option.some.inj H
    go_enter Try.func83, Try.ntmps83
    go_wp2
    go_ret
    exact ⟨by first | rfl | (simp; done) | (simp [*]; done), by repeat (first | exact Drawn0.refl _ | apply Drawn0.step)⟩

end Go.Proofs.Ytbakmkoppieelaa.PLinearChecks

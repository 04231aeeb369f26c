/- What is proved: contracts of the functions that the law uses, each under the conditions that its theorem states. Written by a program of this session: texts of the kit's print, and texts by hand for the functions that the print does not take. -/
import Derived.Test.YtbakmkoppieelaaPLinearChecksx0
namespace Go.Proofs.Ytbakmkoppieelaa.PLinearChecks
open Go.RowKit Go.Proofs.YtbakmkoppieelaaW.PrintWords Go.Proofs.YtbakmkoppieelaaW.PrintLast Go.Proofs.YtbakmkoppieelaaW.PrintMore
attribute [local go_sem] max2_int min2_int max_two min_two max_three min_three max_four min_four   -- for this text's walks alone
set_option linter.unusedVariables false
set_option linter.unusedSimpArgs false

-- NOT PRINTED: function 14 (hawserlaw26_roomy)

/-! ### hawserlaw26_num: function 15 -/
def hawserlaw26_num.f (a0 : Int) : Option (Int) := some a0
set_option maxHeartbeats 8000000 in
set_option maxRecDepth 100000 in
theorem hawserlaw26_num.calls (a0 : Int) (r : Int) (w : World) (h : hawserlaw26_num.f a0 = some r) :
    Calls Try.prog 15 #[.int .i64 a0] w fun e w' => e = .returned (.int .i64 r) ∧ Drawn0 w w' := by
  have H : (some a0) = some r := h
  clear h
  obtain rfl := Option.some.inj H
  go_enter Try.func15, Try.ntmps15
  go_wp2
  go_ret
  exact ⟨by first | rfl | (simp; done) | (simp [*]; done), by repeat (first | exact Drawn0.refl _ | apply Drawn0.step)⟩

/-! ### linear_within: function 70 -/
def linear_within.f (a0 : Int) (a1 : Int) (a2 : Int) : Option (Bool) := if a0 ≥ a1 then (some (decide (a0 ≤ a2))) else (some false)
set_option maxHeartbeats 8000000 in
set_option maxRecDepth 100000 in
theorem linear_within.calls (a0 : Int) (a1 : Int) (a2 : Int) (r : Bool) (w : World) (h : linear_within.f a0 a1 a2 = some r) :
    Calls Try.prog 70 #[.int .i64 a0, .int .i64 a1, .int .i64 a2] w fun e w' => e = .returned (.bool r) ∧ Drawn0 w w' := by
  have H : (if a0 ≥ a1 then (some (decide (a0 ≤ a2))) else (some false)) = some r := h
  clear h
  by_cases c4 : a0 ≥ a1
  · rw [if_pos c4] at H
    have c4b0 : decide (a1 ≤ a0) = true := decide_eq_true c4
    clear c4
    obtain rfl := Option.some.inj H
    go_enter Try.func70, Try.ntmps70
    go_wp2
    go_ret
    exact ⟨by first | rfl | (simp; done) | (simp [*]; done), by repeat (first | exact Drawn0.refl _ | apply Drawn0.step)⟩
  · rw [if_neg c4] at H
    have c4b0 : decide (a1 ≤ a0) = false := decide_eq_false c4
    clear c4
    obtain rfl := Option.some.inj H
    go_enter Try.func70, Try.ntmps70
    go_wp2
    go_ret
    exact ⟨by first | rfl | (simp; done) | (simp [*]; done), by repeat (first | exact Drawn0.refl _ | apply Drawn0.step)⟩

/-! ### linear_answered: function 42 -/
/-! ### linear_isUser: function 120 -/
def linear_isUser.f (a0 : ByteArray) : Option (Bool) := if (a0.size : Int) ≥ 1 then (if (a0.size : Int) ≤ 1024 then (if 0 < (a0.size : Int) then (some ((bt a0 0) != 0)) else (none)) else (some false)) else (some false)
set_option maxHeartbeats 8000000 in
set_option maxRecDepth 100000 in
theorem linear_isUser.calls (a0 : ByteArray) (r : Bool) (w : World) (h : linear_isUser.f a0 = some r) :
    Calls Try.prog 120 #[.string a0] w fun e w' => e = .returned (.bool r) ∧ Drawn0 w w' := by
  have H : (if (a0.size : Int) ≥ 1 then (if (a0.size : Int) ≤ 1024 then (if 0 < (a0.size : Int) then (some ((bt a0 0) != 0)) else (none)) else (some false)) else (some false)) = some r := h
  clear h
  by_cases c2 : (a0.size : Int) ≥ 1
  · rw [if_pos c2] at H
    have c2b0 : decide (1 ≤ (a0.size : Int)) = true := decide_eq_true c2
    have c2b1 : decide (1 ≤ a0.size) = true := decide_eq_true (by omega)
    clear c2
    by_cases c3 : (a0.size : Int) ≤ 1024
    · rw [if_pos c3] at H
      have c3b0 : decide ((a0.size : Int) ≤ 1024) = true := decide_eq_true c3
      have c3b1 : decide (a0.size ≤ 1024) = true := decide_eq_true (by omega)
      clear c3
      by_cases c4 : 0 < (a0.size : Int)
      · rw [if_pos c4] at H
        have c4b0 : decide (0 < (a0.size : Int)) = true := decide_eq_true c4
        have c4b1 : decide (0 < a0.size) = true := decide_eq_true (by omega)
        clear c4
        obtain rfl := Option.some.inj H
        have p5 : 0 ≤ (0 : Int) := (by omega)
        have q5 : 0 < a0.size := (by have : (0 : Int) < (a0.size : Int) := of_decide_eq_true (by first | (with_reducible assumption) | assumption); omega)
        have hx5 : ∀ h : 0 < a0.size, ((a0[0]'h).toNat : Int) = bt a0 0 := bt_at a0 0
        clear p5
        have qi5 : (0 < (a0.size : Int)) = True := eq_true (of_decide_eq_true (by first | (with_reducible assumption) | assumption))
        replace q5 := eq_true q5
        go_enter Try.func120, Try.ntmps120
        go_wp2
        go_ret
        exact ⟨by first | rfl | (simp; done) | (simp [*]; done), by repeat (first | exact Drawn0.refl _ | apply Drawn0.step)⟩
      · rw [if_neg c4] at H
        exact absurd H (by simp)
    · rw [if_neg c3] at H
      have c3b0 : decide ((a0.size : Int) ≤ 1024) = false := decide_eq_false c3
      have c3b1 : decide (a0.size ≤ 1024) = false := decide_eq_false (by omega)
      clear c3
      obtain rfl := Option.some.inj H
      go_enter Try.func120, Try.ntmps120
      go_wp2
      go_ret
      exact ⟨by first | rfl | (simp; done) | (simp [*]; done), by repeat (first | exact Drawn0.refl _ | apply Drawn0.step)⟩
  · rw [if_neg c2] at H
    have c2b0 : decide (1 ≤ (a0.size : Int)) = false := decide_eq_false c2
    have c2b1 : decide (1 ≤ a0.size) = false := decide_eq_false (by omega)
    clear c2
    obtain rfl := Option.some.inj H
    go_enter Try.func120, Try.ntmps120
    go_wp2
    go_ret
    exact ⟨by first | rfl | (simp; done) | (simp [*]; done), by repeat (first | exact Drawn0.refl _ | apply Drawn0.step)⟩

/-! ### linear_readMay: function 78 -/
theorem cells16 {W : World} {B : Nat} {v0 v1 v2 v3 v4 v5 v6 v7 v8 v9 v10 v11 v12 v13 v14 v15 : Value} (g : W.heap[B]? = some (.cells #[v0, v1, v2, v3, v4, v5, v6, v7, v8, v9, v10, v11, v12, v13, v14, v15] 39 (0, 0))) : W.cell? ⟨B, 0, none⟩ = some v0 ∧ W.cell? ⟨B, 1, none⟩ = some v1 ∧ W.cell? ⟨B, 2, none⟩ = some v2 ∧ W.cell? ⟨B, 3, none⟩ = some v3 ∧ W.cell? ⟨B, 4, none⟩ = some v4 ∧ W.cell? ⟨B, 5, none⟩ = some v5 ∧ W.cell? ⟨B, 6, none⟩ = some v6 ∧ W.cell? ⟨B, 7, none⟩ = some v7 ∧ W.cell? ⟨B, 8, none⟩ = some v8 ∧ W.cell? ⟨B, 9, none⟩ = some v9 ∧ W.cell? ⟨B, 10, none⟩ = some v10 ∧ W.cell? ⟨B, 11, none⟩ = some v11 ∧ W.cell? ⟨B, 12, none⟩ = some v12 ∧ W.cell? ⟨B, 13, none⟩ = some v13 ∧ W.cell? ⟨B, 14, none⟩ = some v14 ∧ W.cell? ⟨B, 15, none⟩ = some v15 :=
  ⟨(blk_cell g 0).trans rfl, (blk_cell g 1).trans rfl, (blk_cell g 2).trans rfl, (blk_cell g 3).trans rfl, (blk_cell g 4).trans rfl, (blk_cell g 5).trans rfl, (blk_cell g 6).trans rfl, (blk_cell g 7).trans rfl, (blk_cell g 8).trans rfl, (blk_cell g 9).trans rfl, (blk_cell g 10).trans rfl, (blk_cell g 11).trans rfl, (blk_cell g 12).trans rfl, (blk_cell g 13).trans rfl, (blk_cell g 14).trans rfl, (blk_cell g 15).trans rfl⟩
def usrB (s : ByteArray) : Bool := if (s.size : Int) ≥ 1 then (if (s.size : Int) ≤ 1024 then bt s 0 != 0 else false) else false
theorem usr_some (s : ByteArray) : (if (s.size : Int) ≥ 1 then (if (s.size : Int) ≤ 1024 then (if 0 < (s.size : Int) then (some ((bt s 0) != 0)) else (none)) else (some false)) else (some false)) = some (usrB s) := by
  unfold usrB
  by_cases h1 : (s.size : Int) ≥ 1
  · rw [if_pos h1, if_pos h1]
    by_cases h2 : (s.size : Int) ≤ 1024
    · rw [if_pos h2, if_pos h2, if_pos (by omega)]
    · rw [if_neg h2, if_neg h2]
  · rw [if_neg h1, if_neg h1]
theorem usr1 (s : ByteArray) : linear_isUser.f s = some (usrB s) := usr_some s
def wiB (a lo hi : Int) : Bool := if a ≥ lo then decide (a ≤ hi) else false
theorem wi1 (a lo hi : Int) : linear_within.f a lo hi = some (wiB a lo hi) := by unfold linear_within.f wiB; split <;> rfl
theorem isUser_ax (s : ByteArray) (b : Bool) (hb : usrB s = b) (w : World) : Calls Try.prog 120 #[.string s] w fun e w' => e = .returned (.bool b) ∧ Drawn0 w w' := linear_isUser.calls s b w (by rw [usr1, hb])
theorem within_ax (a lo hi : Int) (b : Bool) (hb : wiB a lo hi = b) (w : World) : Calls Try.prog 70 #[.int .i64 a, .int .i64 lo, .int .i64 hi] w fun e w' => e = .returned (.bool b) ∧ Drawn0 w w' := linear_within.calls a lo hi b w (by rw [wi1, hb])
def rowZ (k v : ByteArray) (n : Int) : Bool := k.toList == ([] : List UInt8) && (v.toList == ([] : List UInt8) && (n == 0))
def opZ (kd : Int) (k v : ByteArray) (n : Int) : Bool := kd == 0 && (k.toList == ([] : List UInt8) && (v.toList == ([] : List UInt8) && (n == 0)))
def resZ (a b : Int) : Bool := a == 0 && b == 0
theorem str_nil {s : ByteArray} (h : s.toList = ([] : List UInt8)) : s = ⟨#[]⟩ := by
  have h2 : s.data.toList = [] := by rw [← ByteArray.toList_eq] ; exact h
  cases s with
  | mk d => simp at h2; rw [h2]
def readB (k : ByteArray) (o0 : Int) (o1 o2 : ByteArray) (o3 e r0 r1 : Int) (w0 w1 : ByteArray) (w2 : Int) (f : Bool) : Bool := usrB k && (opZ o0 o1 o2 o3 && (resZ r0 r1 && (if f then (e != -1 && (w0.toList == k.toList && (decide ((w1.size : Int) ≤ 65536) && wiB w2 1 1152921504606846976))) else rowZ w0 w1 w2)))
set_option maxRecDepth 100000 in
theorem answered_any (a0_0 : Int) (a0_1 : Int) (a0_2 : Bool) (a0_3 : ByteArray) (a0_4 : Int) (a0_5 : ByteArray) (a0_6 : ByteArray) (a0_7 : Int) (a0_8 : Int) (a0_9 : Int) (a0_10 : Int) (a0_11 : Int) (a0_12 : ByteArray) (a0_13 : ByteArray) (a0_14 : Int) (a0_15 : Bool) (b : Bool) (hb : (a0_9 != -1) = b) (w : World) : Calls Try.prog 42 #[.agg #[.int .i64 a0_0, .int .i64 a0_1, .bool a0_2, .string a0_3, .int .i64 a0_4, .string a0_5, .string a0_6, .int .i64 a0_7, .int .i64 a0_8, .int .i64 a0_9, .int .i64 a0_10, .int .i64 a0_11, .string a0_12, .string a0_13, .int .i64 a0_14, .bool a0_15]] w fun e w' => e = .returned (.bool b) ∧ Below w.heap.size w w' := by
  subst hb
  go_enter Try.func42, Try.ntmps42
  go_wp2
  go_ret
  exact ⟨rfl, by first | exact Below.refl _ _ | exact (Below.refl _ _).alloc (Nat.le_refl _) _⟩
set_option maxRecDepth 100000 in
theorem read_u (a0_0 : Int) (a0_1 : Int) (a0_2 : Bool) (a0_3 : ByteArray) (a0_4 : Int) (a0_5 : ByteArray) (a0_6 : ByteArray) (a0_7 : Int) (a0_8 : Int) (a0_9 : Int) (a0_10 : Int) (a0_11 : Int) (a0_12 : ByteArray) (a0_13 : ByteArray) (a0_14 : Int) (a0_15 : Bool) (w : World) (hu : usrB a0_3 = false) :
    Calls Try.prog 78 #[.agg #[.int .i64 a0_0, .int .i64 a0_1, .bool a0_2, .string a0_3, .int .i64 a0_4, .string a0_5, .string a0_6, .int .i64 a0_7, .int .i64 a0_8, .int .i64 a0_9, .int .i64 a0_10, .int .i64 a0_11, .string a0_12, .string a0_13, .int .i64 a0_14, .bool a0_15]] w fun e w' => e = .returned (.bool false) ∧ Below w.heap.size w w' := by
  have hu39 := Try.underlying39
  have hu32 := Try.underlying32
  have hu35 := Try.underlying35
  have hu37 := Try.underlying37
  have HU := Lib.hid (fun W => isUser_ax a0_3 false hu W)
  clear hu
  go_enter Try.func78, Try.ntmps78
  go_upto_region 1 with (fail)
  obtain ⟨B, hB⟩ : ∃ B, RowKit.Hid (B = w.heap.size) := ⟨_, Lib.hid rfl⟩
  obtain ⟨W1, hW1⟩ : ∃ W1, w.alloc (.cells #[.int .i64 a0_0, .int .i64 a0_1, .bool a0_2, .string a0_3, .int .i64 a0_4, .string a0_5, .string a0_6, .int .i64 a0_7, .int .i64 a0_8, .int .i64 a0_9, .int .i64 a0_10, .int .i64 a0_11, .string a0_12, .string a0_13, .int .i64 a0_14, .bool a0_15] 39) = W1 := ⟨_, rfl⟩
  have g1 : W1.heap[B]? = some (.cells #[.int .i64 a0_0, .int .i64 a0_1, .bool a0_2, .string a0_3, .int .i64 a0_4, .string a0_5, .string a0_6, .int .i64 a0_7, .int .i64 a0_8, .int .i64 a0_9, .int .i64 a0_10, .int .i64 a0_11, .string a0_12, .string a0_13, .int .i64 a0_14, .bool a0_15] 39 (0, 0)) := by rw [← hW1, hB.out]; exact heap_alloc_new w _
  have b1 : Below w.heap.size w W1 := by rw [← hW1]; exact (Below.refl _ _).alloc (Nat.le_refl _) _
  rw [hW1, ← hB.out]
  clear hW1
  obtain ⟨z0, z1, z2, z3, z4, z5, z6, z7, z8, z9, z10, z11, z12, z13, z14, z15⟩ := cells16 g1
  have G1 := Lib.hid (And.intro g1 b1)
  clear g1 b1
  go_wp2_with (first
    | (go_at_call 120; refine (HU.out _).mono ?_; rintro e w' ⟨rfl, ⟨nd, rfl⟩⟩)
    | (fail))
  go_ret
  exact ⟨by first | rfl | simp, by first | exact G1.out.2 | exact pw_below_drewN G1.out.2 _⟩
set_option maxRecDepth 100000 in
theorem read_o4 (a0_0 : Int) (a0_1 : Int) (a0_2 : Bool) (a0_3 : ByteArray) (a0_4 : Int) (a0_5 : ByteArray) (a0_6 : ByteArray) (a0_7 : Int) (a0_8 : Int) (a0_9 : Int) (a0_10 : Int) (a0_11 : Int) (a0_12 : ByteArray) (a0_13 : ByteArray) (a0_14 : Int) (a0_15 : Bool) (w : World) (hu : usrB a0_3 = true) (h_a0_4 : (a0_4 == 0) = false) :
    Calls Try.prog 78 #[.agg #[.int .i64 a0_0, .int .i64 a0_1, .bool a0_2, .string a0_3, .int .i64 a0_4, .string a0_5, .string a0_6, .int .i64 a0_7, .int .i64 a0_8, .int .i64 a0_9, .int .i64 a0_10, .int .i64 a0_11, .string a0_12, .string a0_13, .int .i64 a0_14, .bool a0_15]] w fun e w' => e = .returned (.bool false) ∧ Below w.heap.size w w' := by
  have hu39 := Try.underlying39
  have hu32 := Try.underlying32
  have hu35 := Try.underlying35
  have hu37 := Try.underlying37
  have HU := Lib.hid (fun W => isUser_ax a0_3 true hu W)
  clear hu
  go_enter Try.func78, Try.ntmps78
  go_upto_region 1 with (fail)
  obtain ⟨B, hB⟩ : ∃ B, RowKit.Hid (B = w.heap.size) := ⟨_, Lib.hid rfl⟩
  obtain ⟨W1, hW1⟩ : ∃ W1, w.alloc (.cells #[.int .i64 a0_0, .int .i64 a0_1, .bool a0_2, .string a0_3, .int .i64 a0_4, .string a0_5, .string a0_6, .int .i64 a0_7, .int .i64 a0_8, .int .i64 a0_9, .int .i64 a0_10, .int .i64 a0_11, .string a0_12, .string a0_13, .int .i64 a0_14, .bool a0_15] 39) = W1 := ⟨_, rfl⟩
  have g1 : W1.heap[B]? = some (.cells #[.int .i64 a0_0, .int .i64 a0_1, .bool a0_2, .string a0_3, .int .i64 a0_4, .string a0_5, .string a0_6, .int .i64 a0_7, .int .i64 a0_8, .int .i64 a0_9, .int .i64 a0_10, .int .i64 a0_11, .string a0_12, .string a0_13, .int .i64 a0_14, .bool a0_15] 39 (0, 0)) := by rw [← hW1, hB.out]; exact heap_alloc_new w _
  have b1 : Below w.heap.size w W1 := by rw [← hW1]; exact (Below.refl _ _).alloc (Nat.le_refl _) _
  rw [hW1, ← hB.out]
  clear hW1
  obtain ⟨z0, z1, z2, z3, z4, z5, z6, z7, z8, z9, z10, z11, z12, z13, z14, z15⟩ := cells16 g1
  have G1 := Lib.hid (And.intro g1 b1)
  clear g1 b1
  go_wp2_with (first
    | (go_at_call 120; refine (HU.out _).mono ?_; rintro e w' ⟨rfl, ⟨nd, rfl⟩⟩)
    | (fail))
  go_ret
  exact ⟨by first | rfl | simp, by first | exact G1.out.2 | exact pw_below_drewN G1.out.2 _⟩
set_option maxRecDepth 100000 in
theorem read_o5 (a0_0 : Int) (a0_1 : Int) (a0_2 : Bool) (a0_3 : ByteArray) (a0_5 : ByteArray) (a0_6 : ByteArray) (a0_7 : Int) (a0_8 : Int) (a0_9 : Int) (a0_10 : Int) (a0_11 : Int) (a0_12 : ByteArray) (a0_13 : ByteArray) (a0_14 : Int) (a0_15 : Bool) (w : World) (hu : usrB a0_3 = true) (h_a0_5 : a0_5.toList.isEmpty = false) :
    Calls Try.prog 78 #[.agg #[.int .i64 a0_0, .int .i64 a0_1, .bool a0_2, .string a0_3, .int .i64 0, .string a0_5, .string a0_6, .int .i64 a0_7, .int .i64 a0_8, .int .i64 a0_9, .int .i64 a0_10, .int .i64 a0_11, .string a0_12, .string a0_13, .int .i64 a0_14, .bool a0_15]] w fun e w' => e = .returned (.bool false) ∧ Below w.heap.size w w' := by
  have hu39 := Try.underlying39
  have hu32 := Try.underlying32
  have hu35 := Try.underlying35
  have hu37 := Try.underlying37
  have HU := Lib.hid (fun W => isUser_ax a0_3 true hu W)
  clear hu
  go_enter Try.func78, Try.ntmps78
  go_upto_region 1 with (fail)
  obtain ⟨B, hB⟩ : ∃ B, RowKit.Hid (B = w.heap.size) := ⟨_, Lib.hid rfl⟩
  obtain ⟨W1, hW1⟩ : ∃ W1, w.alloc (.cells #[.int .i64 a0_0, .int .i64 a0_1, .bool a0_2, .string a0_3, .int .i64 0, .string a0_5, .string a0_6, .int .i64 a0_7, .int .i64 a0_8, .int .i64 a0_9, .int .i64 a0_10, .int .i64 a0_11, .string a0_12, .string a0_13, .int .i64 a0_14, .bool a0_15] 39) = W1 := ⟨_, rfl⟩
  have g1 : W1.heap[B]? = some (.cells #[.int .i64 a0_0, .int .i64 a0_1, .bool a0_2, .string a0_3, .int .i64 0, .string a0_5, .string a0_6, .int .i64 a0_7, .int .i64 a0_8, .int .i64 a0_9, .int .i64 a0_10, .int .i64 a0_11, .string a0_12, .string a0_13, .int .i64 a0_14, .bool a0_15] 39 (0, 0)) := by rw [← hW1, hB.out]; exact heap_alloc_new w _
  have b1 : Below w.heap.size w W1 := by rw [← hW1]; exact (Below.refl _ _).alloc (Nat.le_refl _) _
  rw [hW1, ← hB.out]
  clear hW1
  obtain ⟨z0, z1, z2, z3, z4, z5, z6, z7, z8, z9, z10, z11, z12, z13, z14, z15⟩ := cells16 g1
  have G1 := Lib.hid (And.intro g1 b1)
  clear g1 b1
  go_wp2_with (first
    | (go_at_call 120; refine (HU.out _).mono ?_; rintro e w' ⟨rfl, ⟨nd, rfl⟩⟩)
    | (fail))
  go_ret
  exact ⟨by first | rfl | simp, by first | exact G1.out.2 | exact pw_below_drewN G1.out.2 _⟩
set_option maxRecDepth 100000 in
theorem read_o6 (a0_0 : Int) (a0_1 : Int) (a0_2 : Bool) (a0_3 : ByteArray) (a0_6 : ByteArray) (a0_7 : Int) (a0_8 : Int) (a0_9 : Int) (a0_10 : Int) (a0_11 : Int) (a0_12 : ByteArray) (a0_13 : ByteArray) (a0_14 : Int) (a0_15 : Bool) (w : World) (hu : usrB a0_3 = true) (h_a0_6 : a0_6.toList.isEmpty = false) :
    Calls Try.prog 78 #[.agg #[.int .i64 a0_0, .int .i64 a0_1, .bool a0_2, .string a0_3, .int .i64 0, .string (⟨#[]⟩ : ByteArray), .string a0_6, .int .i64 a0_7, .int .i64 a0_8, .int .i64 a0_9, .int .i64 a0_10, .int .i64 a0_11, .string a0_12, .string a0_13, .int .i64 a0_14, .bool a0_15]] w fun e w' => e = .returned (.bool false) ∧ Below w.heap.size w w' := by
  have hu39 := Try.underlying39
  have hu32 := Try.underlying32
  have hu35 := Try.underlying35
  have hu37 := Try.underlying37
  have HU := Lib.hid (fun W => isUser_ax a0_3 true hu W)
  clear hu
  go_enter Try.func78, Try.ntmps78
  go_upto_region 1 with (fail)
  obtain ⟨B, hB⟩ : ∃ B, RowKit.Hid (B = w.heap.size) := ⟨_, Lib.hid rfl⟩
  obtain ⟨W1, hW1⟩ : ∃ W1, w.alloc (.cells #[.int .i64 a0_0, .int .i64 a0_1, .bool a0_2, .string a0_3, .int .i64 0, .string (⟨#[]⟩ : ByteArray), .string a0_6, .int .i64 a0_7, .int .i64 a0_8, .int .i64 a0_9, .int .i64 a0_10, .int .i64 a0_11, .string a0_12, .string a0_13, .int .i64 a0_14, .bool a0_15] 39) = W1 := ⟨_, rfl⟩
  have g1 : W1.heap[B]? = some (.cells #[.int .i64 a0_0, .int .i64 a0_1, .bool a0_2, .string a0_3, .int .i64 0, .string (⟨#[]⟩ : ByteArray), .string a0_6, .int .i64 a0_7, .int .i64 a0_8, .int .i64 a0_9, .int .i64 a0_10, .int .i64 a0_11, .string a0_12, .string a0_13, .int .i64 a0_14, .bool a0_15] 39 (0, 0)) := by rw [← hW1, hB.out]; exact heap_alloc_new w _
  have b1 : Below w.heap.size w W1 := by rw [← hW1]; exact (Below.refl _ _).alloc (Nat.le_refl _) _
  rw [hW1, ← hB.out]
  clear hW1
  obtain ⟨z0, z1, z2, z3, z4, z5, z6, z7, z8, z9, z10, z11, z12, z13, z14, z15⟩ := cells16 g1
  have G1 := Lib.hid (And.intro g1 b1)
  clear g1 b1
  go_wp2_with (first
    | (go_at_call 120; refine (HU.out _).mono ?_; rintro e w' ⟨rfl, ⟨nd, rfl⟩⟩)
    | (fail))
  go_ret
  exact ⟨by first | rfl | simp, by first | exact G1.out.2 | exact pw_below_drewN G1.out.2 _⟩
set_option maxRecDepth 100000 in
theorem read_o7 (a0_0 : Int) (a0_1 : Int) (a0_2 : Bool) (a0_3 : ByteArray) (a0_7 : Int) (a0_8 : Int) (a0_9 : Int) (a0_10 : Int) (a0_11 : Int) (a0_12 : ByteArray) (a0_13 : ByteArray) (a0_14 : Int) (a0_15 : Bool) (w : World) (hu : usrB a0_3 = true) (h_a0_7 : (a0_7 == 0) = false) :
    Calls Try.prog 78 #[.agg #[.int .i64 a0_0, .int .i64 a0_1, .bool a0_2, .string a0_3, .int .i64 0, .string (⟨#[]⟩ : ByteArray), .string (⟨#[]⟩ : ByteArray), .int .i64 a0_7, .int .i64 a0_8, .int .i64 a0_9, .int .i64 a0_10, .int .i64 a0_11, .string a0_12, .string a0_13, .int .i64 a0_14, .bool a0_15]] w fun e w' => e = .returned (.bool false) ∧ Below w.heap.size w w' := by
  have hu39 := Try.underlying39
  have hu32 := Try.underlying32
  have hu35 := Try.underlying35
  have hu37 := Try.underlying37
  have HU := Lib.hid (fun W => isUser_ax a0_3 true hu W)
  clear hu
  go_enter Try.func78, Try.ntmps78
  go_upto_region 1 with (fail)
  obtain ⟨B, hB⟩ : ∃ B, RowKit.Hid (B = w.heap.size) := ⟨_, Lib.hid rfl⟩
  obtain ⟨W1, hW1⟩ : ∃ W1, w.alloc (.cells #[.int .i64 a0_0, .int .i64 a0_1, .bool a0_2, .string a0_3, .int .i64 0, .string (⟨#[]⟩ : ByteArray), .string (⟨#[]⟩ : ByteArray), .int .i64 a0_7, .int .i64 a0_8, .int .i64 a0_9, .int .i64 a0_10, .int .i64 a0_11, .string a0_12, .string a0_13, .int .i64 a0_14, .bool a0_15] 39) = W1 := ⟨_, rfl⟩
  have g1 : W1.heap[B]? = some (.cells #[.int .i64 a0_0, .int .i64 a0_1, .bool a0_2, .string a0_3, .int .i64 0, .string (⟨#[]⟩ : ByteArray), .string (⟨#[]⟩ : ByteArray), .int .i64 a0_7, .int .i64 a0_8, .int .i64 a0_9, .int .i64 a0_10, .int .i64 a0_11, .string a0_12, .string a0_13, .int .i64 a0_14, .bool a0_15] 39 (0, 0)) := by rw [← hW1, hB.out]; exact heap_alloc_new w _
  have b1 : Below w.heap.size w W1 := by rw [← hW1]; exact (Below.refl _ _).alloc (Nat.le_refl _) _
  rw [hW1, ← hB.out]
  clear hW1
  obtain ⟨z0, z1, z2, z3, z4, z5, z6, z7, z8, z9, z10, z11, z12, z13, z14, z15⟩ := cells16 g1
  have G1 := Lib.hid (And.intro g1 b1)
  clear g1 b1
  go_wp2_with (first
    | (go_at_call 120; refine (HU.out _).mono ?_; rintro e w' ⟨rfl, ⟨nd, rfl⟩⟩)
    | (fail))
  go_ret
  exact ⟨by first | rfl | simp, by first | exact G1.out.2 | exact pw_below_drewN G1.out.2 _⟩
set_option maxRecDepth 100000 in
theorem read_o10 (a0_0 : Int) (a0_1 : Int) (a0_2 : Bool) (a0_3 : ByteArray) (a0_8 : Int) (a0_9 : Int) (a0_10 : Int) (a0_11 : Int) (a0_12 : ByteArray) (a0_13 : ByteArray) (a0_14 : Int) (a0_15 : Bool) (w : World) (hu : usrB a0_3 = true) (h_a0_10 : (a0_10 == 0) = false) :
    Calls Try.prog 78 #[.agg #[.int .i64 a0_0, .int .i64 a0_1, .bool a0_2, .string a0_3, .int .i64 0, .string (⟨#[]⟩ : ByteArray), .string (⟨#[]⟩ : ByteArray), .int .i64 0, .int .i64 a0_8, .int .i64 a0_9, .int .i64 a0_10, .int .i64 a0_11, .string a0_12, .string a0_13, .int .i64 a0_14, .bool a0_15]] w fun e w' => e = .returned (.bool false) ∧ Below w.heap.size w w' := by
  have hu39 := Try.underlying39
  have hu32 := Try.underlying32
  have hu35 := Try.underlying35
  have hu37 := Try.underlying37
  have HU := Lib.hid (fun W => isUser_ax a0_3 true hu W)
  clear hu
  go_enter Try.func78, Try.ntmps78
  go_upto_region 1 with (fail)
  obtain ⟨B, hB⟩ : ∃ B, RowKit.Hid (B = w.heap.size) := ⟨_, Lib.hid rfl⟩
  obtain ⟨W1, hW1⟩ : ∃ W1, w.alloc (.cells #[.int .i64 a0_0, .int .i64 a0_1, .bool a0_2, .string a0_3, .int .i64 0, .string (⟨#[]⟩ : ByteArray), .string (⟨#[]⟩ : ByteArray), .int .i64 0, .int .i64 a0_8, .int .i64 a0_9, .int .i64 a0_10, .int .i64 a0_11, .string a0_12, .string a0_13, .int .i64 a0_14, .bool a0_15] 39) = W1 := ⟨_, rfl⟩
  have g1 : W1.heap[B]? = some (.cells #[.int .i64 a0_0, .int .i64 a0_1, .bool a0_2, .string a0_3, .int .i64 0, .string (⟨#[]⟩ : ByteArray), .string (⟨#[]⟩ : ByteArray), .int .i64 0, .int .i64 a0_8, .int .i64 a0_9, .int .i64 a0_10, .int .i64 a0_11, .string a0_12, .string a0_13, .int .i64 a0_14, .bool a0_15] 39 (0, 0)) := by rw [← hW1, hB.out]; exact heap_alloc_new w _
  have b1 : Below w.heap.size w W1 := by rw [← hW1]; exact (Below.refl _ _).alloc (Nat.le_refl _) _
  rw [hW1, ← hB.out]
  clear hW1
  obtain ⟨z0, z1, z2, z3, z4, z5, z6, z7, z8, z9, z10, z11, z12, z13, z14, z15⟩ := cells16 g1
  have G1 := Lib.hid (And.intro g1 b1)
  clear g1 b1
  go_wp2_with (first
    | (go_at_call 120; refine (HU.out _).mono ?_; rintro e w' ⟨rfl, ⟨nd, rfl⟩⟩)
    | (fail))
  go_ret
  exact ⟨by first | rfl | simp, by first | exact G1.out.2 | exact pw_below_drewN G1.out.2 _⟩
set_option maxRecDepth 100000 in
theorem read_o11 (a0_0 : Int) (a0_1 : Int) (a0_2 : Bool) (a0_3 : ByteArray) (a0_8 : Int) (a0_9 : Int) (a0_11 : Int) (a0_12 : ByteArray) (a0_13 : ByteArray) (a0_14 : Int) (a0_15 : Bool) (w : World) (hu : usrB a0_3 = true) (h_a0_11 : (a0_11 == 0) = false) :
    Calls Try.prog 78 #[.agg #[.int .i64 a0_0, .int .i64 a0_1, .bool a0_2, .string a0_3, .int .i64 0, .string (⟨#[]⟩ : ByteArray), .string (⟨#[]⟩ : ByteArray), .int .i64 0, .int .i64 a0_8, .int .i64 a0_9, .int .i64 0, .int .i64 a0_11, .string a0_12, .string a0_13, .int .i64 a0_14, .bool a0_15]] w fun e w' => e = .returned (.bool false) ∧ Below w.heap.size w w' := by
  have hu39 := Try.underlying39
  have hu32 := Try.underlying32
  have hu35 := Try.underlying35
  have hu37 := Try.underlying37
  have HU := Lib.hid (fun W => isUser_ax a0_3 true hu W)
  clear hu
  go_enter Try.func78, Try.ntmps78
  go_upto_region 1 with (fail)
  obtain ⟨B, hB⟩ : ∃ B, RowKit.Hid (B = w.heap.size) := ⟨_, Lib.hid rfl⟩
  obtain ⟨W1, hW1⟩ : ∃ W1, w.alloc (.cells #[.int .i64 a0_0, .int .i64 a0_1, .bool a0_2, .string a0_3, .int .i64 0, .string (⟨#[]⟩ : ByteArray), .string (⟨#[]⟩ : ByteArray), .int .i64 0, .int .i64 a0_8, .int .i64 a0_9, .int .i64 0, .int .i64 a0_11, .string a0_12, .string a0_13, .int .i64 a0_14, .bool a0_15] 39) = W1 := ⟨_, rfl⟩
  have g1 : W1.heap[B]? = some (.cells #[.int .i64 a0_0, .int .i64 a0_1, .bool a0_2, .string a0_3, .int .i64 0, .string (⟨#[]⟩ : ByteArray), .string (⟨#[]⟩ : ByteArray), .int .i64 0, .int .i64 a0_8, .int .i64 a0_9, .int .i64 0, .int .i64 a0_11, .string a0_12, .string a0_13, .int .i64 a0_14, .bool a0_15] 39 (0, 0)) := by rw [← hW1, hB.out]; exact heap_alloc_new w _
  have b1 : Below w.heap.size w W1 := by rw [← hW1]; exact (Below.refl _ _).alloc (Nat.le_refl _) _
  rw [hW1, ← hB.out]
  clear hW1
  obtain ⟨z0, z1, z2, z3, z4, z5, z6, z7, z8, z9, z10, z11, z12, z13, z14, z15⟩ := cells16 g1
  have G1 := Lib.hid (And.intro g1 b1)
  clear g1 b1
  go_wp2_with (first
    | (go_at_call 120; refine (HU.out _).mono ?_; rintro e w' ⟨rfl, ⟨nd, rfl⟩⟩)
    | (fail))
  go_ret
  exact ⟨by first | rfl | simp, by first | exact G1.out.2 | exact pw_below_drewN G1.out.2 _⟩
set_option maxRecDepth 100000 in
theorem read_efk (a0_0 : Int) (a0_1 : Int) (a0_2 : Bool) (a0_3 : ByteArray) (a0_8 : Int) (a0_9 : Int) (a0_12 : ByteArray) (a0_13 : ByteArray) (a0_14 : Int) (w : World) (hu : usrB a0_3 = true) (h9 : (a0_9 != -1) = true) (hk : (a0_12.toList == a0_3.toList) = false) :
    Calls Try.prog 78 #[.agg #[.int .i64 a0_0, .int .i64 a0_1, .bool a0_2, .string a0_3, .int .i64 0, .string (⟨#[]⟩ : ByteArray), .string (⟨#[]⟩ : ByteArray), .int .i64 0, .int .i64 a0_8, .int .i64 a0_9, .int .i64 0, .int .i64 0, .string a0_12, .string a0_13, .int .i64 a0_14, .bool true]] w fun e w' => e = .returned (.bool false) ∧ Below w.heap.size w w' := by
  have hu39 := Try.underlying39
  have hu32 := Try.underlying32
  have hu35 := Try.underlying35
  have hu37 := Try.underlying37
  have HU := Lib.hid (fun W => isUser_ax a0_3 true hu W)
  clear hu
  have HA := Lib.hid (fun W => answered_any (a0_0) (a0_1) (a0_2) (a0_3) (0) ((⟨#[]⟩ : ByteArray)) ((⟨#[]⟩ : ByteArray)) (0) (a0_8) (a0_9) (0) (0) (a0_12) (a0_13) (a0_14) (true) true h9 W)
  clear h9
  go_enter Try.func78, Try.ntmps78
  go_upto_region 1 with (fail)
  obtain ⟨B, hB⟩ : ∃ B, RowKit.Hid (B = w.heap.size) := ⟨_, Lib.hid rfl⟩
  obtain ⟨W1, hW1⟩ : ∃ W1, w.alloc (.cells #[.int .i64 a0_0, .int .i64 a0_1, .bool a0_2, .string a0_3, .int .i64 0, .string (⟨#[]⟩ : ByteArray), .string (⟨#[]⟩ : ByteArray), .int .i64 0, .int .i64 a0_8, .int .i64 a0_9, .int .i64 0, .int .i64 0, .string a0_12, .string a0_13, .int .i64 a0_14, .bool true] 39) = W1 := ⟨_, rfl⟩
  have g1 : W1.heap[B]? = some (.cells #[.int .i64 a0_0, .int .i64 a0_1, .bool a0_2, .string a0_3, .int .i64 0, .string (⟨#[]⟩ : ByteArray), .string (⟨#[]⟩ : ByteArray), .int .i64 0, .int .i64 a0_8, .int .i64 a0_9, .int .i64 0, .int .i64 0, .string a0_12, .string a0_13, .int .i64 a0_14, .bool true] 39 (0, 0)) := by rw [← hW1, hB.out]; exact heap_alloc_new w _
  have b1 : Below w.heap.size w W1 := by rw [← hW1]; exact (Below.refl _ _).alloc (Nat.le_refl _) _
  rw [hW1, ← hB.out]
  clear hW1
  obtain ⟨z0, z1, z2, z3, z4, z5, z6, z7, z8, z9, z10, z11, z12, z13, z14, z15⟩ := cells16 g1
  have G1 := Lib.hid (And.intro g1 b1)
  clear g1 b1
  go_wp2_with (first
    | (go_at_call 120; refine (HU.out _).mono ?_; rintro e w' ⟨rfl, ⟨nd, rfl⟩⟩)
    | (refine wpList_load_row rfl 39 (.tmp 1) rfl B rfl 39 #[.int .i64 a0_0, .int .i64 a0_1, .bool a0_2, .string a0_3, .int .i64 0, .string (⟨#[]⟩ : ByteArray), .string (⟨#[]⟩ : ByteArray), .int .i64 0, .int .i64 a0_8, .int .i64 a0_9, .int .i64 0, .int .i64 0, .string a0_12, .string a0_13, .int .i64 a0_14, .bool true] (0, 0) _ (by first | exact G1.out.1 | exact blk_drewN G1.out.1 _) Try.underlying39 rfl (by kernel_rfl) ?_)
    | (go_at_call 42; refine (HA.out _).mono ?_; rintro e w2 ⟨rfl, hb2⟩; have g2 := blk_below (by first | exact G1.out.1 | exact blk_drewN G1.out.1 _) hb2; have bw2 : Below w.heap.size w w2 := (by first | exact G1.out.2 | exact pw_below_drewN G1.out.2 _ : Below w.heap.size w _).trans (hb2.mono (by first | exact G1.out.2.size | exact (pw_below_drewN G1.out.2 _).size)); have hz2 : B < w2.heap.size := blk_lt g2; obtain ⟨y0, y1, y2, y3, y4, y5, y6, y7, y8, y9, y10, y11, y12, y13, y14, y15⟩ := cells16 g2; clear z0 z1 z2 z3 z4 z5 z6 z7 z8 z9 z10 z11 z12 z13 z14 z15; have Hb2 := Lib.hid (And.intro g2 (And.intro bw2 bw2.size)); clear g2 bw2 hb2)
    | (fail))
  go_ret
  exact ⟨by first | rfl | simp, by first | exact Hb2.out.2.1 | exact Hb2.out.2.1.alloc Hb2.out.2.2 _ | exact pw_below_drewN (Hb2.out.2.1.alloc Hb2.out.2.2 _) _ | exact G1.out.2 | exact pw_below_drewN G1.out.2 _⟩
set_option maxRecDepth 100000 in
theorem read_efs (a0_0 : Int) (a0_1 : Int) (a0_2 : Bool) (a0_3 : ByteArray) (a0_8 : Int) (a0_9 : Int) (a0_12 : ByteArray) (a0_13 : ByteArray) (a0_14 : Int) (w : World) (hu : usrB a0_3 = true) (h9 : (a0_9 != -1) = true) (hk : (a0_12.toList == a0_3.toList) = true) (hs : decide ((a0_13.size : Int) ≤ 65536) = false) :
    Calls Try.prog 78 #[.agg #[.int .i64 a0_0, .int .i64 a0_1, .bool a0_2, .string a0_3, .int .i64 0, .string (⟨#[]⟩ : ByteArray), .string (⟨#[]⟩ : ByteArray), .int .i64 0, .int .i64 a0_8, .int .i64 a0_9, .int .i64 0, .int .i64 0, .string a0_12, .string a0_13, .int .i64 a0_14, .bool true]] w fun e w' => e = .returned (.bool false) ∧ Below w.heap.size w w' := by
  have hu39 := Try.underlying39
  have hu32 := Try.underlying32
  have hu35 := Try.underlying35
  have hu37 := Try.underlying37
  have HU := Lib.hid (fun W => isUser_ax a0_3 true hu W)
  clear hu
  have HA := Lib.hid (fun W => answered_any (a0_0) (a0_1) (a0_2) (a0_3) (0) ((⟨#[]⟩ : ByteArray)) ((⟨#[]⟩ : ByteArray)) (0) (a0_8) (a0_9) (0) (0) (a0_12) (a0_13) (a0_14) (true) true h9 W)
  clear h9
  have hs2 : decide (a0_13.size ≤ 65536) = false := by simp at hs ⊢; omega
  go_enter Try.func78, Try.ntmps78
  go_upto_region 1 with (fail)
  obtain ⟨B, hB⟩ : ∃ B, RowKit.Hid (B = w.heap.size) := ⟨_, Lib.hid rfl⟩
  obtain ⟨W1, hW1⟩ : ∃ W1, w.alloc (.cells #[.int .i64 a0_0, .int .i64 a0_1, .bool a0_2, .string a0_3, .int .i64 0, .string (⟨#[]⟩ : ByteArray), .string (⟨#[]⟩ : ByteArray), .int .i64 0, .int .i64 a0_8, .int .i64 a0_9, .int .i64 0, .int .i64 0, .string a0_12, .string a0_13, .int .i64 a0_14, .bool true] 39) = W1 := ⟨_, rfl⟩
  have g1 : W1.heap[B]? = some (.cells #[.int .i64 a0_0, .int .i64 a0_1, .bool a0_2, .string a0_3, .int .i64 0, .string (⟨#[]⟩ : ByteArray), .string (⟨#[]⟩ : ByteArray), .int .i64 0, .int .i64 a0_8, .int .i64 a0_9, .int .i64 0, .int .i64 0, .string a0_12, .string a0_13, .int .i64 a0_14, .bool true] 39 (0, 0)) := by rw [← hW1, hB.out]; exact heap_alloc_new w _
  have b1 : Below w.heap.size w W1 := by rw [← hW1]; exact (Below.refl _ _).alloc (Nat.le_refl _) _
  rw [hW1, ← hB.out]
  clear hW1
  obtain ⟨z0, z1, z2, z3, z4, z5, z6, z7, z8, z9, z10, z11, z12, z13, z14, z15⟩ := cells16 g1
  have G1 := Lib.hid (And.intro g1 b1)
  clear g1 b1
  go_wp2_with (first
    | (go_at_call 120; refine (HU.out _).mono ?_; rintro e w' ⟨rfl, ⟨nd, rfl⟩⟩)
    | (refine wpList_load_row rfl 39 (.tmp 1) rfl B rfl 39 #[.int .i64 a0_0, .int .i64 a0_1, .bool a0_2, .string a0_3, .int .i64 0, .string (⟨#[]⟩ : ByteArray), .string (⟨#[]⟩ : ByteArray), .int .i64 0, .int .i64 a0_8, .int .i64 a0_9, .int .i64 0, .int .i64 0, .string a0_12, .string a0_13, .int .i64 a0_14, .bool true] (0, 0) _ (by first | exact G1.out.1 | exact blk_drewN G1.out.1 _) Try.underlying39 rfl (by kernel_rfl) ?_)
    | (go_at_call 42; refine (HA.out _).mono ?_; rintro e w2 ⟨rfl, hb2⟩; have g2 := blk_below (by first | exact G1.out.1 | exact blk_drewN G1.out.1 _) hb2; have bw2 : Below w.heap.size w w2 := (by first | exact G1.out.2 | exact pw_below_drewN G1.out.2 _ : Below w.heap.size w _).trans (hb2.mono (by first | exact G1.out.2.size | exact (pw_below_drewN G1.out.2 _).size)); have hz2 : B < w2.heap.size := blk_lt g2; obtain ⟨y0, y1, y2, y3, y4, y5, y6, y7, y8, y9, y10, y11, y12, y13, y14, y15⟩ := cells16 g2; clear z0 z1 z2 z3 z4 z5 z6 z7 z8 z9 z10 z11 z12 z13 z14 z15; have Hb2 := Lib.hid (And.intro g2 (And.intro bw2 bw2.size)); clear g2 bw2 hb2)
    | (fail))
  go_ret
  exact ⟨by first | rfl | simp, by first | exact Hb2.out.2.1 | exact Hb2.out.2.1.alloc Hb2.out.2.2 _ | exact pw_below_drewN (Hb2.out.2.1.alloc Hb2.out.2.2 _) _ | exact G1.out.2 | exact pw_below_drewN G1.out.2 _⟩
set_option maxRecDepth 100000 in
theorem read_efw (a0_0 : Int) (a0_1 : Int) (a0_2 : Bool) (a0_3 : ByteArray) (a0_8 : Int) (a0_9 : Int) (a0_12 : ByteArray) (a0_13 : ByteArray) (a0_14 : Int) (w : World) (hu : usrB a0_3 = true) (h9 : (a0_9 != -1) = true) (hk : (a0_12.toList == a0_3.toList) = true) (hs : decide ((a0_13.size : Int) ≤ 65536) = true) (b : Bool) (hw : wiB a0_14 1 1152921504606846976 = b) :
    Calls Try.prog 78 #[.agg #[.int .i64 a0_0, .int .i64 a0_1, .bool a0_2, .string a0_3, .int .i64 0, .string (⟨#[]⟩ : ByteArray), .string (⟨#[]⟩ : ByteArray), .int .i64 0, .int .i64 a0_8, .int .i64 a0_9, .int .i64 0, .int .i64 0, .string a0_12, .string a0_13, .int .i64 a0_14, .bool true]] w fun e w' => e = .returned (.bool b) ∧ Below w.heap.size w w' := by
  have hu39 := Try.underlying39
  have hu32 := Try.underlying32
  have hu35 := Try.underlying35
  have hu37 := Try.underlying37
  have HU := Lib.hid (fun W => isUser_ax a0_3 true hu W)
  clear hu
  have HA := Lib.hid (fun W => answered_any (a0_0) (a0_1) (a0_2) (a0_3) (0) ((⟨#[]⟩ : ByteArray)) ((⟨#[]⟩ : ByteArray)) (0) (a0_8) (a0_9) (0) (0) (a0_12) (a0_13) (a0_14) (true) true h9 W)
  clear h9
  have hs2 : decide (a0_13.size ≤ 65536) = true := by simp at hs ⊢; omega
  have HW := Lib.hid (fun W => within_ax a0_14 1 1152921504606846976 b hw W)
  clear hw
  go_enter Try.func78, Try.ntmps78
  go_upto_region 1 with (fail)
  obtain ⟨B, hB⟩ : ∃ B, RowKit.Hid (B = w.heap.size) := ⟨_, Lib.hid rfl⟩
  obtain ⟨W1, hW1⟩ : ∃ W1, w.alloc (.cells #[.int .i64 a0_0, .int .i64 a0_1, .bool a0_2, .string a0_3, .int .i64 0, .string (⟨#[]⟩ : ByteArray), .string (⟨#[]⟩ : ByteArray), .int .i64 0, .int .i64 a0_8, .int .i64 a0_9, .int .i64 0, .int .i64 0, .string a0_12, .string a0_13, .int .i64 a0_14, .bool true] 39) = W1 := ⟨_, rfl⟩
  have g1 : W1.heap[B]? = some (.cells #[.int .i64 a0_0, .int .i64 a0_1, .bool a0_2, .string a0_3, .int .i64 0, .string (⟨#[]⟩ : ByteArray), .string (⟨#[]⟩ : ByteArray), .int .i64 0, .int .i64 a0_8, .int .i64 a0_9, .int .i64 0, .int .i64 0, .string a0_12, .string a0_13, .int .i64 a0_14, .bool true] 39 (0, 0)) := by rw [← hW1, hB.out]; exact heap_alloc_new w _
  have b1 : Below w.heap.size w W1 := by rw [← hW1]; exact (Below.refl _ _).alloc (Nat.le_refl _) _
  rw [hW1, ← hB.out]
  clear hW1
  obtain ⟨z0, z1, z2, z3, z4, z5, z6, z7, z8, z9, z10, z11, z12, z13, z14, z15⟩ := cells16 g1
  have G1 := Lib.hid (And.intro g1 b1)
  clear g1 b1
  go_wp2_with (first
    | (go_at_call 120; refine (HU.out _).mono ?_; rintro e w' ⟨rfl, ⟨nd, rfl⟩⟩)
    | (refine wpList_load_row rfl 39 (.tmp 1) rfl B rfl 39 #[.int .i64 a0_0, .int .i64 a0_1, .bool a0_2, .string a0_3, .int .i64 0, .string (⟨#[]⟩ : ByteArray), .string (⟨#[]⟩ : ByteArray), .int .i64 0, .int .i64 a0_8, .int .i64 a0_9, .int .i64 0, .int .i64 0, .string a0_12, .string a0_13, .int .i64 a0_14, .bool true] (0, 0) _ (by first | exact G1.out.1 | exact blk_drewN G1.out.1 _) Try.underlying39 rfl (by kernel_rfl) ?_)
    | (go_at_call 42; refine (HA.out _).mono ?_; rintro e w2 ⟨rfl, hb2⟩; have g2 := blk_below (by first | exact G1.out.1 | exact blk_drewN G1.out.1 _) hb2; have bw2 : Below w.heap.size w w2 := (by first | exact G1.out.2 | exact pw_below_drewN G1.out.2 _ : Below w.heap.size w _).trans (hb2.mono (by first | exact G1.out.2.size | exact (pw_below_drewN G1.out.2 _).size)); have hz2 : B < w2.heap.size := blk_lt g2; obtain ⟨y0, y1, y2, y3, y4, y5, y6, y7, y8, y9, y10, y11, y12, y13, y14, y15⟩ := cells16 g2; clear z0 z1 z2 z3 z4 z5 z6 z7 z8 z9 z10 z11 z12 z13 z14 z15; have Hb2 := Lib.hid (And.intro g2 (And.intro bw2 bw2.size)); clear g2 bw2 hb2)
    | (go_at_call 70; refine (HW.out _).mono ?_; rintro e w4 ⟨rfl, ⟨nd4, rfl⟩⟩)
    | (fail))
  go_ret
  exact ⟨by first | rfl | simp, by first | exact Hb2.out.2.1 | exact Hb2.out.2.1.alloc Hb2.out.2.2 _ | exact pw_below_drewN (Hb2.out.2.1.alloc Hb2.out.2.2 _) _ | exact G1.out.2 | exact pw_below_drewN G1.out.2 _⟩
set_option maxRecDepth 100000 in
theorem read_em12 (a0_0 : Int) (a0_1 : Int) (a0_2 : Bool) (a0_3 : ByteArray) (a0_8 : Int) (a0_9 : Int) (a0_12 : ByteArray) (a0_13 : ByteArray) (a0_14 : Int) (w : World) (hu : usrB a0_3 = true) (h9 : (a0_9 != -1) = true) (h_a0_12 : a0_12.toList.isEmpty = false) :
    Calls Try.prog 78 #[.agg #[.int .i64 a0_0, .int .i64 a0_1, .bool a0_2, .string a0_3, .int .i64 0, .string (⟨#[]⟩ : ByteArray), .string (⟨#[]⟩ : ByteArray), .int .i64 0, .int .i64 a0_8, .int .i64 a0_9, .int .i64 0, .int .i64 0, .string a0_12, .string a0_13, .int .i64 a0_14, .bool false]] w fun e w' => e = .returned (.bool false) ∧ Below w.heap.size w w' := by
  have hu39 := Try.underlying39
  have hu32 := Try.underlying32
  have hu35 := Try.underlying35
  have hu37 := Try.underlying37
  have HU := Lib.hid (fun W => isUser_ax a0_3 true hu W)
  clear hu
  have HA := Lib.hid (fun W => answered_any (a0_0) (a0_1) (a0_2) (a0_3) (0) ((⟨#[]⟩ : ByteArray)) ((⟨#[]⟩ : ByteArray)) (0) (a0_8) (a0_9) (0) (0) (a0_12) (a0_13) (a0_14) (false) true h9 W)
  clear h9
  go_enter Try.func78, Try.ntmps78
  go_upto_region 1 with (fail)
  obtain ⟨B, hB⟩ : ∃ B, RowKit.Hid (B = w.heap.size) := ⟨_, Lib.hid rfl⟩
  obtain ⟨W1, hW1⟩ : ∃ W1, w.alloc (.cells #[.int .i64 a0_0, .int .i64 a0_1, .bool a0_2, .string a0_3, .int .i64 0, .string (⟨#[]⟩ : ByteArray), .string (⟨#[]⟩ : ByteArray), .int .i64 0, .int .i64 a0_8, .int .i64 a0_9, .int .i64 0, .int .i64 0, .string a0_12, .string a0_13, .int .i64 a0_14, .bool false] 39) = W1 := ⟨_, rfl⟩
  have g1 : W1.heap[B]? = some (.cells #[.int .i64 a0_0, .int .i64 a0_1, .bool a0_2, .string a0_3, .int .i64 0, .string (⟨#[]⟩ : ByteArray), .string (⟨#[]⟩ : ByteArray), .int .i64 0, .int .i64 a0_8, .int .i64 a0_9, .int .i64 0, .int .i64 0, .string a0_12, .string a0_13, .int .i64 a0_14, .bool false] 39 (0, 0)) := by rw [← hW1, hB.out]; exact heap_alloc_new w _
  have b1 : Below w.heap.size w W1 := by rw [← hW1]; exact (Below.refl _ _).alloc (Nat.le_refl _) _
  rw [hW1, ← hB.out]
  clear hW1
  obtain ⟨z0, z1, z2, z3, z4, z5, z6, z7, z8, z9, z10, z11, z12, z13, z14, z15⟩ := cells16 g1
  have G1 := Lib.hid (And.intro g1 b1)
  clear g1 b1
  go_wp2_with (first
    | (go_at_call 120; refine (HU.out _).mono ?_; rintro e w' ⟨rfl, ⟨nd, rfl⟩⟩)
    | (refine wpList_load_row rfl 39 (.tmp 1) rfl B rfl 39 #[.int .i64 a0_0, .int .i64 a0_1, .bool a0_2, .string a0_3, .int .i64 0, .string (⟨#[]⟩ : ByteArray), .string (⟨#[]⟩ : ByteArray), .int .i64 0, .int .i64 a0_8, .int .i64 a0_9, .int .i64 0, .int .i64 0, .string a0_12, .string a0_13, .int .i64 a0_14, .bool false] (0, 0) _ (by first | exact G1.out.1 | exact blk_drewN G1.out.1 _) Try.underlying39 rfl (by kernel_rfl) ?_)
    | (go_at_call 42; refine (HA.out _).mono ?_; rintro e w2 ⟨rfl, hb2⟩; have g2 := blk_below (by first | exact G1.out.1 | exact blk_drewN G1.out.1 _) hb2; have bw2 : Below w.heap.size w w2 := (by first | exact G1.out.2 | exact pw_below_drewN G1.out.2 _ : Below w.heap.size w _).trans (hb2.mono (by first | exact G1.out.2.size | exact (pw_below_drewN G1.out.2 _).size)); have hz2 : B < w2.heap.size := blk_lt g2; obtain ⟨y0, y1, y2, y3, y4, y5, y6, y7, y8, y9, y10, y11, y12, y13, y14, y15⟩ := cells16 g2; clear z0 z1 z2 z3 z4 z5 z6 z7 z8 z9 z10 z11 z12 z13 z14 z15; have Hb2 := Lib.hid (And.intro g2 (And.intro bw2 bw2.size)); clear g2 bw2 hb2)
    | (fail))
  go_ret
  exact ⟨by first | rfl | simp, by first | exact Hb2.out.2.1 | exact Hb2.out.2.1.alloc Hb2.out.2.2 _ | exact pw_below_drewN (Hb2.out.2.1.alloc Hb2.out.2.2 _) _ | exact G1.out.2 | exact pw_below_drewN G1.out.2 _⟩
set_option maxRecDepth 100000 in
theorem read_em13 (a0_0 : Int) (a0_1 : Int) (a0_2 : Bool) (a0_3 : ByteArray) (a0_8 : Int) (a0_9 : Int) (a0_13 : ByteArray) (a0_14 : Int) (w : World) (hu : usrB a0_3 = true) (h9 : (a0_9 != -1) = true) (h_a0_13 : a0_13.toList.isEmpty = false) :
    Calls Try.prog 78 #[.agg #[.int .i64 a0_0, .int .i64 a0_1, .bool a0_2, .string a0_3, .int .i64 0, .string (⟨#[]⟩ : ByteArray), .string (⟨#[]⟩ : ByteArray), .int .i64 0, .int .i64 a0_8, .int .i64 a0_9, .int .i64 0, .int .i64 0, .string (⟨#[]⟩ : ByteArray), .string a0_13, .int .i64 a0_14, .bool false]] w fun e w' => e = .returned (.bool false) ∧ Below w.heap.size w w' := by
  have hu39 := Try.underlying39
  have hu32 := Try.underlying32
  have hu35 := Try.underlying35
  have hu37 := Try.underlying37
  have HU := Lib.hid (fun W => isUser_ax a0_3 true hu W)
  clear hu
  have HA := Lib.hid (fun W => answered_any (a0_0) (a0_1) (a0_2) (a0_3) (0) ((⟨#[]⟩ : ByteArray)) ((⟨#[]⟩ : ByteArray)) (0) (a0_8) (a0_9) (0) (0) ((⟨#[]⟩ : ByteArray)) (a0_13) (a0_14) (false) true h9 W)
  clear h9
  go_enter Try.func78, Try.ntmps78
  go_upto_region 1 with (fail)
  obtain ⟨B, hB⟩ : ∃ B, RowKit.Hid (B = w.heap.size) := ⟨_, Lib.hid rfl⟩
  obtain ⟨W1, hW1⟩ : ∃ W1, w.alloc (.cells #[.int .i64 a0_0, .int .i64 a0_1, .bool a0_2, .string a0_3, .int .i64 0, .string (⟨#[]⟩ : ByteArray), .string (⟨#[]⟩ : ByteArray), .int .i64 0, .int .i64 a0_8, .int .i64 a0_9, .int .i64 0, .int .i64 0, .string (⟨#[]⟩ : ByteArray), .string a0_13, .int .i64 a0_14, .bool false] 39) = W1 := ⟨_, rfl⟩
  have g1 : W1.heap[B]? = some (.cells #[.int .i64 a0_0, .int .i64 a0_1, .bool a0_2, .string a0_3, .int .i64 0, .string (⟨#[]⟩ : ByteArray), .string (⟨#[]⟩ : ByteArray), .int .i64 0, .int .i64 a0_8, .int .i64 a0_9, .int .i64 0, .int .i64 0, .string (⟨#[]⟩ : ByteArray), .string a0_13, .int .i64 a0_14, .bool false] 39 (0, 0)) := by rw [← hW1, hB.out]; exact heap_alloc_new w _
  have b1 : Below w.heap.size w W1 := by rw [← hW1]; exact (Below.refl _ _).alloc (Nat.le_refl _) _
  rw [hW1, ← hB.out]
  clear hW1
  obtain ⟨z0, z1, z2, z3, z4, z5, z6, z7, z8, z9, z10, z11, z12, z13, z14, z15⟩ := cells16 g1
  have G1 := Lib.hid (And.intro g1 b1)
  clear g1 b1
  go_wp2_with (first
    | (go_at_call 120; refine (HU.out _).mono ?_; rintro e w' ⟨rfl, ⟨nd, rfl⟩⟩)
    | (refine wpList_load_row rfl 39 (.tmp 1) rfl B rfl 39 #[.int .i64 a0_0, .int .i64 a0_1, .bool a0_2, .string a0_3, .int .i64 0, .string (⟨#[]⟩ : ByteArray), .string (⟨#[]⟩ : ByteArray), .int .i64 0, .int .i64 a0_8, .int .i64 a0_9, .int .i64 0, .int .i64 0, .string (⟨#[]⟩ : ByteArray), .string a0_13, .int .i64 a0_14, .bool false] (0, 0) _ (by first | exact G1.out.1 | exact blk_drewN G1.out.1 _) Try.underlying39 rfl (by kernel_rfl) ?_)
    | (go_at_call 42; refine (HA.out _).mono ?_; rintro e w2 ⟨rfl, hb2⟩; have g2 := blk_below (by first | exact G1.out.1 | exact blk_drewN G1.out.1 _) hb2; have bw2 : Below w.heap.size w w2 := (by first | exact G1.out.2 | exact pw_below_drewN G1.out.2 _ : Below w.heap.size w _).trans (hb2.mono (by first | exact G1.out.2.size | exact (pw_below_drewN G1.out.2 _).size)); have hz2 : B < w2.heap.size := blk_lt g2; obtain ⟨y0, y1, y2, y3, y4, y5, y6, y7, y8, y9, y10, y11, y12, y13, y14, y15⟩ := cells16 g2; clear z0 z1 z2 z3 z4 z5 z6 z7 z8 z9 z10 z11 z12 z13 z14 z15; have Hb2 := Lib.hid (And.intro g2 (And.intro bw2 bw2.size)); clear g2 bw2 hb2)
    | (fail))
  go_ret
  exact ⟨by first | rfl | simp, by first | exact Hb2.out.2.1 | exact Hb2.out.2.1.alloc Hb2.out.2.2 _ | exact pw_below_drewN (Hb2.out.2.1.alloc Hb2.out.2.2 _) _ | exact G1.out.2 | exact pw_below_drewN G1.out.2 _⟩
set_option maxRecDepth 100000 in
theorem read_em14 (a0_0 : Int) (a0_1 : Int) (a0_2 : Bool) (a0_3 : ByteArray) (a0_8 : Int) (a0_9 : Int) (a0_14 : Int) (w : World) (hu : usrB a0_3 = true) (h9 : (a0_9 != -1) = true) (h_a0_14 : (a0_14 == 0) = false) :
    Calls Try.prog 78 #[.agg #[.int .i64 a0_0, .int .i64 a0_1, .bool a0_2, .string a0_3, .int .i64 0, .string (⟨#[]⟩ : ByteArray), .string (⟨#[]⟩ : ByteArray), .int .i64 0, .int .i64 a0_8, .int .i64 a0_9, .int .i64 0, .int .i64 0, .string (⟨#[]⟩ : ByteArray), .string (⟨#[]⟩ : ByteArray), .int .i64 a0_14, .bool false]] w fun e w' => e = .returned (.bool false) ∧ Below w.heap.size w w' := by
  have hu39 := Try.underlying39
  have hu32 := Try.underlying32
  have hu35 := Try.underlying35
  have hu37 := Try.underlying37
  have HU := Lib.hid (fun W => isUser_ax a0_3 true hu W)
  clear hu
  have HA := Lib.hid (fun W => answered_any (a0_0) (a0_1) (a0_2) (a0_3) (0) ((⟨#[]⟩ : ByteArray)) ((⟨#[]⟩ : ByteArray)) (0) (a0_8) (a0_9) (0) (0) ((⟨#[]⟩ : ByteArray)) ((⟨#[]⟩ : ByteArray)) (a0_14) (false) true h9 W)
  clear h9
  go_enter Try.func78, Try.ntmps78
  go_upto_region 1 with (fail)
  obtain ⟨B, hB⟩ : ∃ B, RowKit.Hid (B = w.heap.size) := ⟨_, Lib.hid rfl⟩
  obtain ⟨W1, hW1⟩ : ∃ W1, w.alloc (.cells #[.int .i64 a0_0, .int .i64 a0_1, .bool a0_2, .string a0_3, .int .i64 0, .string (⟨#[]⟩ : ByteArray), .string (⟨#[]⟩ : ByteArray), .int .i64 0, .int .i64 a0_8, .int .i64 a0_9, .int .i64 0, .int .i64 0, .string (⟨#[]⟩ : ByteArray), .string (⟨#[]⟩ : ByteArray), .int .i64 a0_14, .bool false] 39) = W1 := ⟨_, rfl⟩
  have g1 : W1.heap[B]? = some (.cells #[.int .i64 a0_0, .int .i64 a0_1, .bool a0_2, .string a0_3, .int .i64 0, .string (⟨#[]⟩ : ByteArray), .string (⟨#[]⟩ : ByteArray), .int .i64 0, .int .i64 a0_8, .int .i64 a0_9, .int .i64 0, .int .i64 0, .string (⟨#[]⟩ : ByteArray), .string (⟨#[]⟩ : ByteArray), .int .i64 a0_14, .bool false] 39 (0, 0)) := by rw [← hW1, hB.out]; exact heap_alloc_new w _
  have b1 : Below w.heap.size w W1 := by rw [← hW1]; exact (Below.refl _ _).alloc (Nat.le_refl _) _
  rw [hW1, ← hB.out]
  clear hW1
  obtain ⟨z0, z1, z2, z3, z4, z5, z6, z7, z8, z9, z10, z11, z12, z13, z14, z15⟩ := cells16 g1
  have G1 := Lib.hid (And.intro g1 b1)
  clear g1 b1
  go_wp2_with (first
    | (go_at_call 120; refine (HU.out _).mono ?_; rintro e w' ⟨rfl, ⟨nd, rfl⟩⟩)
    | (refine wpList_load_row rfl 39 (.tmp 1) rfl B rfl 39 #[.int .i64 a0_0, .int .i64 a0_1, .bool a0_2, .string a0_3, .int .i64 0, .string (⟨#[]⟩ : ByteArray), .string (⟨#[]⟩ : ByteArray), .int .i64 0, .int .i64 a0_8, .int .i64 a0_9, .int .i64 0, .int .i64 0, .string (⟨#[]⟩ : ByteArray), .string (⟨#[]⟩ : ByteArray), .int .i64 a0_14, .bool false] (0, 0) _ (by first | exact G1.out.1 | exact blk_drewN G1.out.1 _) Try.underlying39 rfl (by kernel_rfl) ?_)
    | (go_at_call 42; refine (HA.out _).mono ?_; rintro e w2 ⟨rfl, hb2⟩; have g2 := blk_below (by first | exact G1.out.1 | exact blk_drewN G1.out.1 _) hb2; have bw2 : Below w.heap.size w w2 := (by first | exact G1.out.2 | exact pw_below_drewN G1.out.2 _ : Below w.heap.size w _).trans (hb2.mono (by first | exact G1.out.2.size | exact (pw_below_drewN G1.out.2 _).size)); have hz2 : B < w2.heap.size := blk_lt g2; obtain ⟨y0, y1, y2, y3, y4, y5, y6, y7, y8, y9, y10, y11, y12, y13, y14, y15⟩ := cells16 g2; clear z0 z1 z2 z3 z4 z5 z6 z7 z8 z9 z10 z11 z12 z13 z14 z15; have Hb2 := Lib.hid (And.intro g2 (And.intro bw2 bw2.size)); clear g2 bw2 hb2)
    | (fail))
  go_ret
  exact ⟨by first | rfl | simp, by first | exact Hb2.out.2.1 | exact Hb2.out.2.1.alloc Hb2.out.2.2 _ | exact pw_below_drewN (Hb2.out.2.1.alloc Hb2.out.2.2 _) _ | exact G1.out.2 | exact pw_below_drewN G1.out.2 _⟩
set_option maxRecDepth 100000 in
theorem read_emz (a0_0 : Int) (a0_1 : Int) (a0_2 : Bool) (a0_3 : ByteArray) (a0_8 : Int) (a0_9 : Int) (w : World) (hu : usrB a0_3 = true) (h9 : (a0_9 != -1) = true) :
    Calls Try.prog 78 #[.agg #[.int .i64 a0_0, .int .i64 a0_1, .bool a0_2, .string a0_3, .int .i64 0, .string (⟨#[]⟩ : ByteArray), .string (⟨#[]⟩ : ByteArray), .int .i64 0, .int .i64 a0_8, .int .i64 a0_9, .int .i64 0, .int .i64 0, .string (⟨#[]⟩ : ByteArray), .string (⟨#[]⟩ : ByteArray), .int .i64 0, .bool false]] w fun e w' => e = .returned (.bool true) ∧ Below w.heap.size w w' := by
  have hu39 := Try.underlying39
  have hu32 := Try.underlying32
  have hu35 := Try.underlying35
  have hu37 := Try.underlying37
  have HU := Lib.hid (fun W => isUser_ax a0_3 true hu W)
  clear hu
  have HA := Lib.hid (fun W => answered_any (a0_0) (a0_1) (a0_2) (a0_3) (0) ((⟨#[]⟩ : ByteArray)) ((⟨#[]⟩ : ByteArray)) (0) (a0_8) (a0_9) (0) (0) ((⟨#[]⟩ : ByteArray)) ((⟨#[]⟩ : ByteArray)) (0) (false) true h9 W)
  clear h9
  go_enter Try.func78, Try.ntmps78
  go_upto_region 1 with (fail)
  obtain ⟨B, hB⟩ : ∃ B, RowKit.Hid (B = w.heap.size) := ⟨_, Lib.hid rfl⟩
  obtain ⟨W1, hW1⟩ : ∃ W1, w.alloc (.cells #[.int .i64 a0_0, .int .i64 a0_1, .bool a0_2, .string a0_3, .int .i64 0, .string (⟨#[]⟩ : ByteArray), .string (⟨#[]⟩ : ByteArray), .int .i64 0, .int .i64 a0_8, .int .i64 a0_9, .int .i64 0, .int .i64 0, .string (⟨#[]⟩ : ByteArray), .string (⟨#[]⟩ : ByteArray), .int .i64 0, .bool false] 39) = W1 := ⟨_, rfl⟩
  have g1 : W1.heap[B]? = some (.cells #[.int .i64 a0_0, .int .i64 a0_1, .bool a0_2, .string a0_3, .int .i64 0, .string (⟨#[]⟩ : ByteArray), .string (⟨#[]⟩ : ByteArray), .int .i64 0, .int .i64 a0_8, .int .i64 a0_9, .int .i64 0, .int .i64 0, .string (⟨#[]⟩ : ByteArray), .string (⟨#[]⟩ : ByteArray), .int .i64 0, .bool false] 39 (0, 0)) := by rw [← hW1, hB.out]; exact heap_alloc_new w _
  have b1 : Below w.heap.size w W1 := by rw [← hW1]; exact (Below.refl _ _).alloc (Nat.le_refl _) _
  rw [hW1, ← hB.out]
  clear hW1
  obtain ⟨z0, z1, z2, z3, z4, z5, z6, z7, z8, z9, z10, z11, z12, z13, z14, z15⟩ := cells16 g1
  have G1 := Lib.hid (And.intro g1 b1)
  clear g1 b1
  go_wp2_with (first
    | (go_at_call 120; refine (HU.out _).mono ?_; rintro e w' ⟨rfl, ⟨nd, rfl⟩⟩)
    | (refine wpList_load_row rfl 39 (.tmp 1) rfl B rfl 39 #[.int .i64 a0_0, .int .i64 a0_1, .bool a0_2, .string a0_3, .int .i64 0, .string (⟨#[]⟩ : ByteArray), .string (⟨#[]⟩ : ByteArray), .int .i64 0, .int .i64 a0_8, .int .i64 a0_9, .int .i64 0, .int .i64 0, .string (⟨#[]⟩ : ByteArray), .string (⟨#[]⟩ : ByteArray), .int .i64 0, .bool false] (0, 0) _ (by first | exact G1.out.1 | exact blk_drewN G1.out.1 _) Try.underlying39 rfl (by kernel_rfl) ?_)
    | (go_at_call 42; refine (HA.out _).mono ?_; rintro e w2 ⟨rfl, hb2⟩; have g2 := blk_below (by first | exact G1.out.1 | exact blk_drewN G1.out.1 _) hb2; have bw2 : Below w.heap.size w w2 := (by first | exact G1.out.2 | exact pw_below_drewN G1.out.2 _ : Below w.heap.size w _).trans (hb2.mono (by first | exact G1.out.2.size | exact (pw_below_drewN G1.out.2 _).size)); have hz2 : B < w2.heap.size := blk_lt g2; obtain ⟨y0, y1, y2, y3, y4, y5, y6, y7, y8, y9, y10, y11, y12, y13, y14, y15⟩ := cells16 g2; clear z0 z1 z2 z3 z4 z5 z6 z7 z8 z9 z10 z11 z12 z13 z14 z15; have Hb2 := Lib.hid (And.intro g2 (And.intro bw2 bw2.size)); clear g2 bw2 hb2)
    | (fail))
  go_ret
  exact ⟨by first | rfl | simp, by first | exact Hb2.out.2.1 | exact Hb2.out.2.1.alloc Hb2.out.2.2 _ | exact pw_below_drewN (Hb2.out.2.1.alloc Hb2.out.2.2 _) _ | exact G1.out.2 | exact pw_below_drewN G1.out.2 _⟩
set_option maxRecDepth 100000 in
theorem read_nf12 (a0_0 : Int) (a0_1 : Int) (a0_2 : Bool) (a0_3 : ByteArray) (a0_8 : Int) (a0_12 : ByteArray) (a0_13 : ByteArray) (a0_14 : Int) (w : World) (hu : usrB a0_3 = true) (h_a0_12 : a0_12.toList.isEmpty = false) :
    Calls Try.prog 78 #[.agg #[.int .i64 a0_0, .int .i64 a0_1, .bool a0_2, .string a0_3, .int .i64 0, .string (⟨#[]⟩ : ByteArray), .string (⟨#[]⟩ : ByteArray), .int .i64 0, .int .i64 a0_8, .int .i64 (-1), .int .i64 0, .int .i64 0, .string a0_12, .string a0_13, .int .i64 a0_14, .bool true]] w fun e w' => e = .returned (.bool false) ∧ Below w.heap.size w w' := by
  have hu39 := Try.underlying39
  have hu32 := Try.underlying32
  have hu35 := Try.underlying35
  have hu37 := Try.underlying37
  have HU := Lib.hid (fun W => isUser_ax a0_3 true hu W)
  clear hu
  have HA := Lib.hid (fun W => answered_any (a0_0) (a0_1) (a0_2) (a0_3) (0) ((⟨#[]⟩ : ByteArray)) ((⟨#[]⟩ : ByteArray)) (0) (a0_8) ((-1)) (0) (0) (a0_12) (a0_13) (a0_14) (true) false (by decide) W)
  go_enter Try.func78, Try.ntmps78
  go_upto_region 1 with (fail)
  obtain ⟨B, hB⟩ : ∃ B, RowKit.Hid (B = w.heap.size) := ⟨_, Lib.hid rfl⟩
  obtain ⟨W1, hW1⟩ : ∃ W1, w.alloc (.cells #[.int .i64 a0_0, .int .i64 a0_1, .bool a0_2, .string a0_3, .int .i64 0, .string (⟨#[]⟩ : ByteArray), .string (⟨#[]⟩ : ByteArray), .int .i64 0, .int .i64 a0_8, .int .i64 (-1), .int .i64 0, .int .i64 0, .string a0_12, .string a0_13, .int .i64 a0_14, .bool true] 39) = W1 := ⟨_, rfl⟩
  have g1 : W1.heap[B]? = some (.cells #[.int .i64 a0_0, .int .i64 a0_1, .bool a0_2, .string a0_3, .int .i64 0, .string (⟨#[]⟩ : ByteArray), .string (⟨#[]⟩ : ByteArray), .int .i64 0, .int .i64 a0_8, .int .i64 (-1), .int .i64 0, .int .i64 0, .string a0_12, .string a0_13, .int .i64 a0_14, .bool true] 39 (0, 0)) := by rw [← hW1, hB.out]; exact heap_alloc_new w _
  have b1 : Below w.heap.size w W1 := by rw [← hW1]; exact (Below.refl _ _).alloc (Nat.le_refl _) _
  rw [hW1, ← hB.out]
  clear hW1
  obtain ⟨z0, z1, z2, z3, z4, z5, z6, z7, z8, z9, z10, z11, z12, z13, z14, z15⟩ := cells16 g1
  have G1 := Lib.hid (And.intro g1 b1)
  clear g1 b1
  go_wp2_with (first
    | (go_at_call 120; refine (HU.out _).mono ?_; rintro e w' ⟨rfl, ⟨nd, rfl⟩⟩)
    | (refine wpList_load_row rfl 39 (.tmp 1) rfl B rfl 39 #[.int .i64 a0_0, .int .i64 a0_1, .bool a0_2, .string a0_3, .int .i64 0, .string (⟨#[]⟩ : ByteArray), .string (⟨#[]⟩ : ByteArray), .int .i64 0, .int .i64 a0_8, .int .i64 (-1), .int .i64 0, .int .i64 0, .string a0_12, .string a0_13, .int .i64 a0_14, .bool true] (0, 0) _ (by first | exact G1.out.1 | exact blk_drewN G1.out.1 _) Try.underlying39 rfl (by kernel_rfl) ?_)
    | (go_at_call 42; refine (HA.out _).mono ?_; rintro e w2 ⟨rfl, hb2⟩; have g2 := blk_below (by first | exact G1.out.1 | exact blk_drewN G1.out.1 _) hb2; have bw2 : Below w.heap.size w w2 := (by first | exact G1.out.2 | exact pw_below_drewN G1.out.2 _ : Below w.heap.size w _).trans (hb2.mono (by first | exact G1.out.2.size | exact (pw_below_drewN G1.out.2 _).size)); have hz2 : B < w2.heap.size := blk_lt g2; obtain ⟨y0, y1, y2, y3, y4, y5, y6, y7, y8, y9, y10, y11, y12, y13, y14, y15⟩ := cells16 g2; clear z0 z1 z2 z3 z4 z5 z6 z7 z8 z9 z10 z11 z12 z13 z14 z15; have Hb2 := Lib.hid (And.intro g2 (And.intro bw2 bw2.size)); clear g2 bw2 hb2)
    | (fail))
  go_ret
  exact ⟨by first | rfl | simp, by first | exact Hb2.out.2.1 | exact Hb2.out.2.1.alloc Hb2.out.2.2 _ | exact pw_below_drewN (Hb2.out.2.1.alloc Hb2.out.2.2 _) _ | exact G1.out.2 | exact pw_below_drewN G1.out.2 _⟩
set_option maxRecDepth 100000 in
theorem read_nf13 (a0_0 : Int) (a0_1 : Int) (a0_2 : Bool) (a0_3 : ByteArray) (a0_8 : Int) (a0_13 : ByteArray) (a0_14 : Int) (w : World) (hu : usrB a0_3 = true) (h_a0_13 : a0_13.toList.isEmpty = false) :
    Calls Try.prog 78 #[.agg #[.int .i64 a0_0, .int .i64 a0_1, .bool a0_2, .string a0_3, .int .i64 0, .string (⟨#[]⟩ : ByteArray), .string (⟨#[]⟩ : ByteArray), .int .i64 0, .int .i64 a0_8, .int .i64 (-1), .int .i64 0, .int .i64 0, .string (⟨#[]⟩ : ByteArray), .string a0_13, .int .i64 a0_14, .bool true]] w fun e w' => e = .returned (.bool false) ∧ Below w.heap.size w w' := by
  have hu39 := Try.underlying39
  have hu32 := Try.underlying32
  have hu35 := Try.underlying35
  have hu37 := Try.underlying37
  have HU := Lib.hid (fun W => isUser_ax a0_3 true hu W)
  clear hu
  have HA := Lib.hid (fun W => answered_any (a0_0) (a0_1) (a0_2) (a0_3) (0) ((⟨#[]⟩ : ByteArray)) ((⟨#[]⟩ : ByteArray)) (0) (a0_8) ((-1)) (0) (0) ((⟨#[]⟩ : ByteArray)) (a0_13) (a0_14) (true) false (by decide) W)
  go_enter Try.func78, Try.ntmps78
  go_upto_region 1 with (fail)
  obtain ⟨B, hB⟩ : ∃ B, RowKit.Hid (B = w.heap.size) := ⟨_, Lib.hid rfl⟩
  obtain ⟨W1, hW1⟩ : ∃ W1, w.alloc (.cells #[.int .i64 a0_0, .int .i64 a0_1, .bool a0_2, .string a0_3, .int .i64 0, .string (⟨#[]⟩ : ByteArray), .string (⟨#[]⟩ : ByteArray), .int .i64 0, .int .i64 a0_8, .int .i64 (-1), .int .i64 0, .int .i64 0, .string (⟨#[]⟩ : ByteArray), .string a0_13, .int .i64 a0_14, .bool true] 39) = W1 := ⟨_, rfl⟩
  have g1 : W1.heap[B]? = some (.cells #[.int .i64 a0_0, .int .i64 a0_1, .bool a0_2, .string a0_3, .int .i64 0, .string (⟨#[]⟩ : ByteArray), .string (⟨#[]⟩ : ByteArray), .int .i64 0, .int .i64 a0_8, .int .i64 (-1), .int .i64 0, .int .i64 0, .string (⟨#[]⟩ : ByteArray), .string a0_13, .int .i64 a0_14, .bool true] 39 (0, 0)) := by rw [← hW1, hB.out]; exact heap_alloc_new w _
  have b1 : Below w.heap.size w W1 := by rw [← hW1]; exact (Below.refl _ _).alloc (Nat.le_refl _) _
  rw [hW1, ← hB.out]
  clear hW1
  obtain ⟨z0, z1, z2, z3, z4, z5, z6, z7, z8, z9, z10, z11, z12, z13, z14, z15⟩ := cells16 g1
  have G1 := Lib.hid (And.intro g1 b1)
  clear g1 b1
  go_wp2_with (first
    | (go_at_call 120; refine (HU.out _).mono ?_; rintro e w' ⟨rfl, ⟨nd, rfl⟩⟩)
    | (refine wpList_load_row rfl 39 (.tmp 1) rfl B rfl 39 #[.int .i64 a0_0, .int .i64 a0_1, .bool a0_2, .string a0_3, .int .i64 0, .string (⟨#[]⟩ : ByteArray), .string (⟨#[]⟩ : ByteArray), .int .i64 0, .int .i64 a0_8, .int .i64 (-1), .int .i64 0, .int .i64 0, .string (⟨#[]⟩ : ByteArray), .string a0_13, .int .i64 a0_14, .bool true] (0, 0) _ (by first | exact G1.out.1 | exact blk_drewN G1.out.1 _) Try.underlying39 rfl (by kernel_rfl) ?_)
    | (go_at_call 42; refine (HA.out _).mono ?_; rintro e w2 ⟨rfl, hb2⟩; have g2 := blk_below (by first | exact G1.out.1 | exact blk_drewN G1.out.1 _) hb2; have bw2 : Below w.heap.size w w2 := (by first | exact G1.out.2 | exact pw_below_drewN G1.out.2 _ : Below w.heap.size w _).trans (hb2.mono (by first | exact G1.out.2.size | exact (pw_below_drewN G1.out.2 _).size)); have hz2 : B < w2.heap.size := blk_lt g2; obtain ⟨y0, y1, y2, y3, y4, y5, y6, y7, y8, y9, y10, y11, y12, y13, y14, y15⟩ := cells16 g2; clear z0 z1 z2 z3 z4 z5 z6 z7 z8 z9 z10 z11 z12 z13 z14 z15; have Hb2 := Lib.hid (And.intro g2 (And.intro bw2 bw2.size)); clear g2 bw2 hb2)
    | (fail))
  go_ret
  exact ⟨by first | rfl | simp, by first | exact Hb2.out.2.1 | exact Hb2.out.2.1.alloc Hb2.out.2.2 _ | exact pw_below_drewN (Hb2.out.2.1.alloc Hb2.out.2.2 _) _ | exact G1.out.2 | exact pw_below_drewN G1.out.2 _⟩
set_option maxRecDepth 100000 in
theorem read_nf14 (a0_0 : Int) (a0_1 : Int) (a0_2 : Bool) (a0_3 : ByteArray) (a0_8 : Int) (a0_14 : Int) (w : World) (hu : usrB a0_3 = true) (h_a0_14 : (a0_14 == 0) = false) :
    Calls Try.prog 78 #[.agg #[.int .i64 a0_0, .int .i64 a0_1, .bool a0_2, .string a0_3, .int .i64 0, .string (⟨#[]⟩ : ByteArray), .string (⟨#[]⟩ : ByteArray), .int .i64 0, .int .i64 a0_8, .int .i64 (-1), .int .i64 0, .int .i64 0, .string (⟨#[]⟩ : ByteArray), .string (⟨#[]⟩ : ByteArray), .int .i64 a0_14, .bool true]] w fun e w' => e = .returned (.bool false) ∧ Below w.heap.size w w' := by
  have hu39 := Try.underlying39
  have hu32 := Try.underlying32
  have hu35 := Try.underlying35
  have hu37 := Try.underlying37
  have HU := Lib.hid (fun W => isUser_ax a0_3 true hu W)
  clear hu
  have HA := Lib.hid (fun W => answered_any (a0_0) (a0_1) (a0_2) (a0_3) (0) ((⟨#[]⟩ : ByteArray)) ((⟨#[]⟩ : ByteArray)) (0) (a0_8) ((-1)) (0) (0) ((⟨#[]⟩ : ByteArray)) ((⟨#[]⟩ : ByteArray)) (a0_14) (true) false (by decide) W)
  go_enter Try.func78, Try.ntmps78
  go_upto_region 1 with (fail)
  obtain ⟨B, hB⟩ : ∃ B, RowKit.Hid (B = w.heap.size) := ⟨_, Lib.hid rfl⟩
  obtain ⟨W1, hW1⟩ : ∃ W1, w.alloc (.cells #[.int .i64 a0_0, .int .i64 a0_1, .bool a0_2, .string a0_3, .int .i64 0, .string (⟨#[]⟩ : ByteArray), .string (⟨#[]⟩ : ByteArray), .int .i64 0, .int .i64 a0_8, .int .i64 (-1), .int .i64 0, .int .i64 0, .string (⟨#[]⟩ : ByteArray), .string (⟨#[]⟩ : ByteArray), .int .i64 a0_14, .bool true] 39) = W1 := ⟨_, rfl⟩
  have g1 : W1.heap[B]? = some (.cells #[.int .i64 a0_0, .int .i64 a0_1, .bool a0_2, .string a0_3, .int .i64 0, .string (⟨#[]⟩ : ByteArray), .string (⟨#[]⟩ : ByteArray), .int .i64 0, .int .i64 a0_8, .int .i64 (-1), .int .i64 0, .int .i64 0, .string (⟨#[]⟩ : ByteArray), .string (⟨#[]⟩ : ByteArray), .int .i64 a0_14, .bool true] 39 (0, 0)) := by rw [← hW1, hB.out]; exact heap_alloc_new w _
  have b1 : Below w.heap.size w W1 := by rw [← hW1]; exact (Below.refl _ _).alloc (Nat.le_refl _) _
  rw [hW1, ← hB.out]
  clear hW1
  obtain ⟨z0, z1, z2, z3, z4, z5, z6, z7, z8, z9, z10, z11, z12, z13, z14, z15⟩ := cells16 g1
  have G1 := Lib.hid (And.intro g1 b1)
  clear g1 b1
  go_wp2_with (first
    | (go_at_call 120; refine (HU.out _).mono ?_; rintro e w' ⟨rfl, ⟨nd, rfl⟩⟩)
    | (refine wpList_load_row rfl 39 (.tmp 1) rfl B rfl 39 #[.int .i64 a0_0, .int .i64 a0_1, .bool a0_2, .string a0_3, .int .i64 0, .string (⟨#[]⟩ : ByteArray), .string (⟨#[]⟩ : ByteArray), .int .i64 0, .int .i64 a0_8, .int .i64 (-1), .int .i64 0, .int .i64 0, .string (⟨#[]⟩ : ByteArray), .string (⟨#[]⟩ : ByteArray), .int .i64 a0_14, .bool true] (0, 0) _ (by first | exact G1.out.1 | exact blk_drewN G1.out.1 _) Try.underlying39 rfl (by kernel_rfl) ?_)
    | (go_at_call 42; refine (HA.out _).mono ?_; rintro e w2 ⟨rfl, hb2⟩; have g2 := blk_below (by first | exact G1.out.1 | exact blk_drewN G1.out.1 _) hb2; have bw2 : Below w.heap.size w w2 := (by first | exact G1.out.2 | exact pw_below_drewN G1.out.2 _ : Below w.heap.size w _).trans (hb2.mono (by first | exact G1.out.2.size | exact (pw_below_drewN G1.out.2 _).size)); have hz2 : B < w2.heap.size := blk_lt g2; obtain ⟨y0, y1, y2, y3, y4, y5, y6, y7, y8, y9, y10, y11, y12, y13, y14, y15⟩ := cells16 g2; clear z0 z1 z2 z3 z4 z5 z6 z7 z8 z9 z10 z11 z12 z13 z14 z15; have Hb2 := Lib.hid (And.intro g2 (And.intro bw2 bw2.size)); clear g2 bw2 hb2)
    | (fail))
  go_ret
  exact ⟨by first | rfl | simp, by first | exact Hb2.out.2.1 | exact Hb2.out.2.1.alloc Hb2.out.2.2 _ | exact pw_below_drewN (Hb2.out.2.1.alloc Hb2.out.2.2 _) _ | exact G1.out.2 | exact pw_below_drewN G1.out.2 _⟩
set_option maxRecDepth 100000 in
theorem read_nfz (a0_0 : Int) (a0_1 : Int) (a0_2 : Bool) (a0_3 : ByteArray) (a0_8 : Int) (w : World) (hu : usrB a0_3 = true) :
    Calls Try.prog 78 #[.agg #[.int .i64 a0_0, .int .i64 a0_1, .bool a0_2, .string a0_3, .int .i64 0, .string (⟨#[]⟩ : ByteArray), .string (⟨#[]⟩ : ByteArray), .int .i64 0, .int .i64 a0_8, .int .i64 (-1), .int .i64 0, .int .i64 0, .string (⟨#[]⟩ : ByteArray), .string (⟨#[]⟩ : ByteArray), .int .i64 0, .bool true]] w fun e w' => e = .returned (.bool false) ∧ Below w.heap.size w w' := by
  have hu39 := Try.underlying39
  have hu32 := Try.underlying32
  have hu35 := Try.underlying35
  have hu37 := Try.underlying37
  have HU := Lib.hid (fun W => isUser_ax a0_3 true hu W)
  clear hu
  have HA := Lib.hid (fun W => answered_any (a0_0) (a0_1) (a0_2) (a0_3) (0) ((⟨#[]⟩ : ByteArray)) ((⟨#[]⟩ : ByteArray)) (0) (a0_8) ((-1)) (0) (0) ((⟨#[]⟩ : ByteArray)) ((⟨#[]⟩ : ByteArray)) (0) (true) false (by decide) W)
  go_enter Try.func78, Try.ntmps78
  go_upto_region 1 with (fail)
  obtain ⟨B, hB⟩ : ∃ B, RowKit.Hid (B = w.heap.size) := ⟨_, Lib.hid rfl⟩
  obtain ⟨W1, hW1⟩ : ∃ W1, w.alloc (.cells #[.int .i64 a0_0, .int .i64 a0_1, .bool a0_2, .string a0_3, .int .i64 0, .string (⟨#[]⟩ : ByteArray), .string (⟨#[]⟩ : ByteArray), .int .i64 0, .int .i64 a0_8, .int .i64 (-1), .int .i64 0, .int .i64 0, .string (⟨#[]⟩ : ByteArray), .string (⟨#[]⟩ : ByteArray), .int .i64 0, .bool true] 39) = W1 := ⟨_, rfl⟩
  have g1 : W1.heap[B]? = some (.cells #[.int .i64 a0_0, .int .i64 a0_1, .bool a0_2, .string a0_3, .int .i64 0, .string (⟨#[]⟩ : ByteArray), .string (⟨#[]⟩ : ByteArray), .int .i64 0, .int .i64 a0_8, .int .i64 (-1), .int .i64 0, .int .i64 0, .string (⟨#[]⟩ : ByteArray), .string (⟨#[]⟩ : ByteArray), .int .i64 0, .bool true] 39 (0, 0)) := by rw [← hW1, hB.out]; exact heap_alloc_new w _
  have b1 : Below w.heap.size w W1 := by rw [← hW1]; exact (Below.refl _ _).alloc (Nat.le_refl _) _
  rw [hW1, ← hB.out]
  clear hW1
  obtain ⟨z0, z1, z2, z3, z4, z5, z6, z7, z8, z9, z10, z11, z12, z13, z14, z15⟩ := cells16 g1
  have G1 := Lib.hid (And.intro g1 b1)
  clear g1 b1
  go_wp2_with (first
    | (go_at_call 120; refine (HU.out _).mono ?_; rintro e w' ⟨rfl, ⟨nd, rfl⟩⟩)
    | (refine wpList_load_row rfl 39 (.tmp 1) rfl B rfl 39 #[.int .i64 a0_0, .int .i64 a0_1, .bool a0_2, .string a0_3, .int .i64 0, .string (⟨#[]⟩ : ByteArray), .string (⟨#[]⟩ : ByteArray), .int .i64 0, .int .i64 a0_8, .int .i64 (-1), .int .i64 0, .int .i64 0, .string (⟨#[]⟩ : ByteArray), .string (⟨#[]⟩ : ByteArray), .int .i64 0, .bool true] (0, 0) _ (by first | exact G1.out.1 | exact blk_drewN G1.out.1 _) Try.underlying39 rfl (by kernel_rfl) ?_)
    | (go_at_call 42; refine (HA.out _).mono ?_; rintro e w2 ⟨rfl, hb2⟩; have g2 := blk_below (by first | exact G1.out.1 | exact blk_drewN G1.out.1 _) hb2; have bw2 : Below w.heap.size w w2 := (by first | exact G1.out.2 | exact pw_below_drewN G1.out.2 _ : Below w.heap.size w _).trans (hb2.mono (by first | exact G1.out.2.size | exact (pw_below_drewN G1.out.2 _).size)); have hz2 : B < w2.heap.size := blk_lt g2; obtain ⟨y0, y1, y2, y3, y4, y5, y6, y7, y8, y9, y10, y11, y12, y13, y14, y15⟩ := cells16 g2; clear z0 z1 z2 z3 z4 z5 z6 z7 z8 z9 z10 z11 z12 z13 z14 z15; have Hb2 := Lib.hid (And.intro g2 (And.intro bw2 bw2.size)); clear g2 bw2 hb2)
    | (fail))
  go_ret
  exact ⟨by first | rfl | simp, by first | exact Hb2.out.2.1 | exact Hb2.out.2.1.alloc Hb2.out.2.2 _ | exact pw_below_drewN (Hb2.out.2.1.alloc Hb2.out.2.2 _) _ | exact G1.out.2 | exact pw_below_drewN G1.out.2 _⟩
set_option maxRecDepth 100000 in
theorem read_nm12 (a0_0 : Int) (a0_1 : Int) (a0_2 : Bool) (a0_3 : ByteArray) (a0_8 : Int) (a0_12 : ByteArray) (a0_13 : ByteArray) (a0_14 : Int) (w : World) (hu : usrB a0_3 = true) (h_a0_12 : a0_12.toList.isEmpty = false) :
    Calls Try.prog 78 #[.agg #[.int .i64 a0_0, .int .i64 a0_1, .bool a0_2, .string a0_3, .int .i64 0, .string (⟨#[]⟩ : ByteArray), .string (⟨#[]⟩ : ByteArray), .int .i64 0, .int .i64 a0_8, .int .i64 (-1), .int .i64 0, .int .i64 0, .string a0_12, .string a0_13, .int .i64 a0_14, .bool false]] w fun e w' => e = .returned (.bool false) ∧ Below w.heap.size w w' := by
  have hu39 := Try.underlying39
  have hu32 := Try.underlying32
  have hu35 := Try.underlying35
  have hu37 := Try.underlying37
  have HU := Lib.hid (fun W => isUser_ax a0_3 true hu W)
  clear hu
  have HA := Lib.hid (fun W => answered_any (a0_0) (a0_1) (a0_2) (a0_3) (0) ((⟨#[]⟩ : ByteArray)) ((⟨#[]⟩ : ByteArray)) (0) (a0_8) ((-1)) (0) (0) (a0_12) (a0_13) (a0_14) (false) false (by decide) W)
  go_enter Try.func78, Try.ntmps78
  go_upto_region 1 with (fail)
  obtain ⟨B, hB⟩ : ∃ B, RowKit.Hid (B = w.heap.size) := ⟨_, Lib.hid rfl⟩
  obtain ⟨W1, hW1⟩ : ∃ W1, w.alloc (.cells #[.int .i64 a0_0, .int .i64 a0_1, .bool a0_2, .string a0_3, .int .i64 0, .string (⟨#[]⟩ : ByteArray), .string (⟨#[]⟩ : ByteArray), .int .i64 0, .int .i64 a0_8, .int .i64 (-1), .int .i64 0, .int .i64 0, .string a0_12, .string a0_13, .int .i64 a0_14, .bool false] 39) = W1 := ⟨_, rfl⟩
  have g1 : W1.heap[B]? = some (.cells #[.int .i64 a0_0, .int .i64 a0_1, .bool a0_2, .string a0_3, .int .i64 0, .string (⟨#[]⟩ : ByteArray), .string (⟨#[]⟩ : ByteArray), .int .i64 0, .int .i64 a0_8, .int .i64 (-1), .int .i64 0, .int .i64 0, .string a0_12, .string a0_13, .int .i64 a0_14, .bool false] 39 (0, 0)) := by rw [← hW1, hB.out]; exact heap_alloc_new w _
  have b1 : Below w.heap.size w W1 := by rw [← hW1]; exact (Below.refl _ _).alloc (Nat.le_refl _) _
  rw [hW1, ← hB.out]
  clear hW1
  obtain ⟨z0, z1, z2, z3, z4, z5, z6, z7, z8, z9, z10, z11, z12, z13, z14, z15⟩ := cells16 g1
  have G1 := Lib.hid (And.intro g1 b1)
  clear g1 b1
  go_wp2_with (first
    | (go_at_call 120; refine (HU.out _).mono ?_; rintro e w' ⟨rfl, ⟨nd, rfl⟩⟩)
    | (refine wpList_load_row rfl 39 (.tmp 1) rfl B rfl 39 #[.int .i64 a0_0, .int .i64 a0_1, .bool a0_2, .string a0_3, .int .i64 0, .string (⟨#[]⟩ : ByteArray), .string (⟨#[]⟩ : ByteArray), .int .i64 0, .int .i64 a0_8, .int .i64 (-1), .int .i64 0, .int .i64 0, .string a0_12, .string a0_13, .int .i64 a0_14, .bool false] (0, 0) _ (by first | exact G1.out.1 | exact blk_drewN G1.out.1 _) Try.underlying39 rfl (by kernel_rfl) ?_)
    | (go_at_call 42; refine (HA.out _).mono ?_; rintro e w2 ⟨rfl, hb2⟩; have g2 := blk_below (by first | exact G1.out.1 | exact blk_drewN G1.out.1 _) hb2; have bw2 : Below w.heap.size w w2 := (by first | exact G1.out.2 | exact pw_below_drewN G1.out.2 _ : Below w.heap.size w _).trans (hb2.mono (by first | exact G1.out.2.size | exact (pw_below_drewN G1.out.2 _).size)); have hz2 : B < w2.heap.size := blk_lt g2; obtain ⟨y0, y1, y2, y3, y4, y5, y6, y7, y8, y9, y10, y11, y12, y13, y14, y15⟩ := cells16 g2; clear z0 z1 z2 z3 z4 z5 z6 z7 z8 z9 z10 z11 z12 z13 z14 z15; have Hb2 := Lib.hid (And.intro g2 (And.intro bw2 bw2.size)); clear g2 bw2 hb2)
    | (fail))
  go_ret
  exact ⟨by first | rfl | simp, by first | exact Hb2.out.2.1 | exact Hb2.out.2.1.alloc Hb2.out.2.2 _ | exact pw_below_drewN (Hb2.out.2.1.alloc Hb2.out.2.2 _) _ | exact G1.out.2 | exact pw_below_drewN G1.out.2 _⟩
set_option maxRecDepth 100000 in
theorem read_nm13 (a0_0 : Int) (a0_1 : Int) (a0_2 : Bool) (a0_3 : ByteArray) (a0_8 : Int) (a0_13 : ByteArray) (a0_14 : Int) (w : World) (hu : usrB a0_3 = true) (h_a0_13 : a0_13.toList.isEmpty = false) :
    Calls Try.prog 78 #[.agg #[.int .i64 a0_0, .int .i64 a0_1, .bool a0_2, .string a0_3, .int .i64 0, .string (⟨#[]⟩ : ByteArray), .string (⟨#[]⟩ : ByteArray), .int .i64 0, .int .i64 a0_8, .int .i64 (-1), .int .i64 0, .int .i64 0, .string (⟨#[]⟩ : ByteArray), .string a0_13, .int .i64 a0_14, .bool false]] w fun e w' => e = .returned (.bool false) ∧ Below w.heap.size w w' := by
  have hu39 := Try.underlying39
  have hu32 := Try.underlying32
  have hu35 := Try.underlying35
  have hu37 := Try.underlying37
  have HU := Lib.hid (fun W => isUser_ax a0_3 true hu W)
  clear hu
  have HA := Lib.hid (fun W => answered_any (a0_0) (a0_1) (a0_2) (a0_3) (0) ((⟨#[]⟩ : ByteArray)) ((⟨#[]⟩ : ByteArray)) (0) (a0_8) ((-1)) (0) (0) ((⟨#[]⟩ : ByteArray)) (a0_13) (a0_14) (false) false (by decide) W)
  go_enter Try.func78, Try.ntmps78
  go_upto_region 1 with (fail)
  obtain ⟨B, hB⟩ : ∃ B, RowKit.Hid (B = w.heap.size) := ⟨_, Lib.hid rfl⟩
  obtain ⟨W1, hW1⟩ : ∃ W1, w.alloc (.cells #[.int .i64 a0_0, .int .i64 a0_1, .bool a0_2, .string a0_3, .int .i64 0, .string (⟨#[]⟩ : ByteArray), .string (⟨#[]⟩ : ByteArray), .int .i64 0, .int .i64 a0_8, .int .i64 (-1), .int .i64 0, .int .i64 0, .string (⟨#[]⟩ : ByteArray), .string a0_13, .int .i64 a0_14, .bool false] 39) = W1 := ⟨_, rfl⟩
  have g1 : W1.heap[B]? = some (.cells #[.int .i64 a0_0, .int .i64 a0_1, .bool a0_2, .string a0_3, .int .i64 0, .string (⟨#[]⟩ : ByteArray), .string (⟨#[]⟩ : ByteArray), .int .i64 0, .int .i64 a0_8, .int .i64 (-1), .int .i64 0, .int .i64 0, .string (⟨#[]⟩ : ByteArray), .string a0_13, .int .i64 a0_14, .bool false] 39 (0, 0)) := by rw [← hW1, hB.out]; exact heap_alloc_new w _
  have b1 : Below w.heap.size w W1 := by rw [← hW1]; exact (Below.refl _ _).alloc (Nat.le_refl _) _
  rw [hW1, ← hB.out]
  clear hW1
  obtain ⟨z0, z1, z2, z3, z4, z5, z6, z7, z8, z9, z10, z11, z12, z13, z14, z15⟩ := cells16 g1
  have G1 := Lib.hid (And.intro g1 b1)
  clear g1 b1
  go_wp2_with (first
    | (go_at_call 120; refine (HU.out _).mono ?_; rintro e w' ⟨rfl, ⟨nd, rfl⟩⟩)
    | (refine wpList_load_row rfl 39 (.tmp 1) rfl B rfl 39 #[.int .i64 a0_0, .int .i64 a0_1, .bool a0_2, .string a0_3, .int .i64 0, .string (⟨#[]⟩ : ByteArray), .string (⟨#[]⟩ : ByteArray), .int .i64 0, .int .i64 a0_8, .int .i64 (-1), .int .i64 0, .int .i64 0, .string (⟨#[]⟩ : ByteArray), .string a0_13, .int .i64 a0_14, .bool false] (0, 0) _ (by first | exact G1.out.1 | exact blk_drewN G1.out.1 _) Try.underlying39 rfl (by kernel_rfl) ?_)
    | (go_at_call 42; refine (HA.out _).mono ?_; rintro e w2 ⟨rfl, hb2⟩; have g2 := blk_below (by first | exact G1.out.1 | exact blk_drewN G1.out.1 _) hb2; have bw2 : Below w.heap.size w w2 := (by first | exact G1.out.2 | exact pw_below_drewN G1.out.2 _ : Below w.heap.size w _).trans (hb2.mono (by first | exact G1.out.2.size | exact (pw_below_drewN G1.out.2 _).size)); have hz2 : B < w2.heap.size := blk_lt g2; obtain ⟨y0, y1, y2, y3, y4, y5, y6, y7, y8, y9, y10, y11, y12, y13, y14, y15⟩ := cells16 g2; clear z0 z1 z2 z3 z4 z5 z6 z7 z8 z9 z10 z11 z12 z13 z14 z15; have Hb2 := Lib.hid (And.intro g2 (And.intro bw2 bw2.size)); clear g2 bw2 hb2)
    | (fail))
  go_ret
  exact ⟨by first | rfl | simp, by first | exact Hb2.out.2.1 | exact Hb2.out.2.1.alloc Hb2.out.2.2 _ | exact pw_below_drewN (Hb2.out.2.1.alloc Hb2.out.2.2 _) _ | exact G1.out.2 | exact pw_below_drewN G1.out.2 _⟩
set_option maxRecDepth 100000 in
theorem read_nm14 (a0_0 : Int) (a0_1 : Int) (a0_2 : Bool) (a0_3 : ByteArray) (a0_8 : Int) (a0_14 : Int) (w : World) (hu : usrB a0_3 = true) (h_a0_14 : (a0_14 == 0) = false) :
    Calls Try.prog 78 #[.agg #[.int .i64 a0_0, .int .i64 a0_1, .bool a0_2, .string a0_3, .int .i64 0, .string (⟨#[]⟩ : ByteArray), .string (⟨#[]⟩ : ByteArray), .int .i64 0, .int .i64 a0_8, .int .i64 (-1), .int .i64 0, .int .i64 0, .string (⟨#[]⟩ : ByteArray), .string (⟨#[]⟩ : ByteArray), .int .i64 a0_14, .bool false]] w fun e w' => e = .returned (.bool false) ∧ Below w.heap.size w w' := by
  have hu39 := Try.underlying39
  have hu32 := Try.underlying32
  have hu35 := Try.underlying35
  have hu37 := Try.underlying37
  have HU := Lib.hid (fun W => isUser_ax a0_3 true hu W)
  clear hu
  have HA := Lib.hid (fun W => answered_any (a0_0) (a0_1) (a0_2) (a0_3) (0) ((⟨#[]⟩ : ByteArray)) ((⟨#[]⟩ : ByteArray)) (0) (a0_8) ((-1)) (0) (0) ((⟨#[]⟩ : ByteArray)) ((⟨#[]⟩ : ByteArray)) (a0_14) (false) false (by decide) W)
  go_enter Try.func78, Try.ntmps78
  go_upto_region 1 with (fail)
  obtain ⟨B, hB⟩ : ∃ B, RowKit.Hid (B = w.heap.size) := ⟨_, Lib.hid rfl⟩
  obtain ⟨W1, hW1⟩ : ∃ W1, w.alloc (.cells #[.int .i64 a0_0, .int .i64 a0_1, .bool a0_2, .string a0_3, .int .i64 0, .string (⟨#[]⟩ : ByteArray), .string (⟨#[]⟩ : ByteArray), .int .i64 0, .int .i64 a0_8, .int .i64 (-1), .int .i64 0, .int .i64 0, .string (⟨#[]⟩ : ByteArray), .string (⟨#[]⟩ : ByteArray), .int .i64 a0_14, .bool false] 39) = W1 := ⟨_, rfl⟩
  have g1 : W1.heap[B]? = some (.cells #[.int .i64 a0_0, .int .i64 a0_1, .bool a0_2, .string a0_3, .int .i64 0, .string (⟨#[]⟩ : ByteArray), .string (⟨#[]⟩ : ByteArray), .int .i64 0, .int .i64 a0_8, .int .i64 (-1), .int .i64 0, .int .i64 0, .string (⟨#[]⟩ : ByteArray), .string (⟨#[]⟩ : ByteArray), .int .i64 a0_14, .bool false] 39 (0, 0)) := by rw [← hW1, hB.out]; exact heap_alloc_new w _
  have b1 : Below w.heap.size w W1 := by rw [← hW1]; exact (Below.refl _ _).alloc (Nat.le_refl _) _
  rw [hW1, ← hB.out]
  clear hW1
  obtain ⟨z0, z1, z2, z3, z4, z5, z6, z7, z8, z9, z10, z11, z12, z13, z14, z15⟩ := cells16 g1
  have G1 := Lib.hid (And.intro g1 b1)
  clear g1 b1
  go_wp2_with (first
    | (go_at_call 120; refine (HU.out _).mono ?_; rintro e w' ⟨rfl, ⟨nd, rfl⟩⟩)
    | (refine wpList_load_row rfl 39 (.tmp 1) rfl B rfl 39 #[.int .i64 a0_0, .int .i64 a0_1, .bool a0_2, .string a0_3, .int .i64 0, .string (⟨#[]⟩ : ByteArray), .string (⟨#[]⟩ : ByteArray), .int .i64 0, .int .i64 a0_8, .int .i64 (-1), .int .i64 0, .int .i64 0, .string (⟨#[]⟩ : ByteArray), .string (⟨#[]⟩ : ByteArray), .int .i64 a0_14, .bool false] (0, 0) _ (by first | exact G1.out.1 | exact blk_drewN G1.out.1 _) Try.underlying39 rfl (by kernel_rfl) ?_)
    | (go_at_call 42; refine (HA.out _).mono ?_; rintro e w2 ⟨rfl, hb2⟩; have g2 := blk_below (by first | exact G1.out.1 | exact blk_drewN G1.out.1 _) hb2; have bw2 : Below w.heap.size w w2 := (by first | exact G1.out.2 | exact pw_below_drewN G1.out.2 _ : Below w.heap.size w _).trans (hb2.mono (by first | exact G1.out.2.size | exact (pw_below_drewN G1.out.2 _).size)); have hz2 : B < w2.heap.size := blk_lt g2; obtain ⟨y0, y1, y2, y3, y4, y5, y6, y7, y8, y9, y10, y11, y12, y13, y14, y15⟩ := cells16 g2; clear z0 z1 z2 z3 z4 z5 z6 z7 z8 z9 z10 z11 z12 z13 z14 z15; have Hb2 := Lib.hid (And.intro g2 (And.intro bw2 bw2.size)); clear g2 bw2 hb2)
    | (fail))
  go_ret
  exact ⟨by first | rfl | simp, by first | exact Hb2.out.2.1 | exact Hb2.out.2.1.alloc Hb2.out.2.2 _ | exact pw_below_drewN (Hb2.out.2.1.alloc Hb2.out.2.2 _) _ | exact G1.out.2 | exact pw_below_drewN G1.out.2 _⟩
set_option maxRecDepth 100000 in
theorem read_nmz (a0_0 : Int) (a0_1 : Int) (a0_2 : Bool) (a0_3 : ByteArray) (a0_8 : Int) (w : World) (hu : usrB a0_3 = true) :
    Calls Try.prog 78 #[.agg #[.int .i64 a0_0, .int .i64 a0_1, .bool a0_2, .string a0_3, .int .i64 0, .string (⟨#[]⟩ : ByteArray), .string (⟨#[]⟩ : ByteArray), .int .i64 0, .int .i64 a0_8, .int .i64 (-1), .int .i64 0, .int .i64 0, .string (⟨#[]⟩ : ByteArray), .string (⟨#[]⟩ : ByteArray), .int .i64 0, .bool false]] w fun e w' => e = .returned (.bool true) ∧ Below w.heap.size w w' := by
  have hu39 := Try.underlying39
  have hu32 := Try.underlying32
  have hu35 := Try.underlying35
  have hu37 := Try.underlying37
  have HU := Lib.hid (fun W => isUser_ax a0_3 true hu W)
  clear hu
  have HA := Lib.hid (fun W => answered_any (a0_0) (a0_1) (a0_2) (a0_3) (0) ((⟨#[]⟩ : ByteArray)) ((⟨#[]⟩ : ByteArray)) (0) (a0_8) ((-1)) (0) (0) ((⟨#[]⟩ : ByteArray)) ((⟨#[]⟩ : ByteArray)) (0) (false) false (by decide) W)
  go_enter Try.func78, Try.ntmps78
  go_upto_region 1 with (fail)
  obtain ⟨B, hB⟩ : ∃ B, RowKit.Hid (B = w.heap.size) := ⟨_, Lib.hid rfl⟩
  obtain ⟨W1, hW1⟩ : ∃ W1, w.alloc (.cells #[.int .i64 a0_0, .int .i64 a0_1, .bool a0_2, .string a0_3, .int .i64 0, .string (⟨#[]⟩ : ByteArray), .string (⟨#[]⟩ : ByteArray), .int .i64 0, .int .i64 a0_8, .int .i64 (-1), .int .i64 0, .int .i64 0, .string (⟨#[]⟩ : ByteArray), .string (⟨#[]⟩ : ByteArray), .int .i64 0, .bool false] 39) = W1 := ⟨_, rfl⟩
  have g1 : W1.heap[B]? = some (.cells #[.int .i64 a0_0, .int .i64 a0_1, .bool a0_2, .string a0_3, .int .i64 0, .string (⟨#[]⟩ : ByteArray), .string (⟨#[]⟩ : ByteArray), .int .i64 0, .int .i64 a0_8, .int .i64 (-1), .int .i64 0, .int .i64 0, .string (⟨#[]⟩ : ByteArray), .string (⟨#[]⟩ : ByteArray), .int .i64 0, .bool false] 39 (0, 0)) := by rw [← hW1, hB.out]; exact heap_alloc_new w _
  have b1 : Below w.heap.size w W1 := by rw [← hW1]; exact (Below.refl _ _).alloc (Nat.le_refl _) _
  rw [hW1, ← hB.out]
  clear hW1
  obtain ⟨z0, z1, z2, z3, z4, z5, z6, z7, z8, z9, z10, z11, z12, z13, z14, z15⟩ := cells16 g1
  have G1 := Lib.hid (And.intro g1 b1)
  clear g1 b1
  go_wp2_with (first
    | (go_at_call 120; refine (HU.out _).mono ?_; rintro e w' ⟨rfl, ⟨nd, rfl⟩⟩)
    | (refine wpList_load_row rfl 39 (.tmp 1) rfl B rfl 39 #[.int .i64 a0_0, .int .i64 a0_1, .bool a0_2, .string a0_3, .int .i64 0, .string (⟨#[]⟩ : ByteArray), .string (⟨#[]⟩ : ByteArray), .int .i64 0, .int .i64 a0_8, .int .i64 (-1), .int .i64 0, .int .i64 0, .string (⟨#[]⟩ : ByteArray), .string (⟨#[]⟩ : ByteArray), .int .i64 0, .bool false] (0, 0) _ (by first | exact G1.out.1 | exact blk_drewN G1.out.1 _) Try.underlying39 rfl (by kernel_rfl) ?_)
    | (go_at_call 42; refine (HA.out _).mono ?_; rintro e w2 ⟨rfl, hb2⟩; have g2 := blk_below (by first | exact G1.out.1 | exact blk_drewN G1.out.1 _) hb2; have bw2 : Below w.heap.size w w2 := (by first | exact G1.out.2 | exact pw_below_drewN G1.out.2 _ : Below w.heap.size w _).trans (hb2.mono (by first | exact G1.out.2.size | exact (pw_below_drewN G1.out.2 _).size)); have hz2 : B < w2.heap.size := blk_lt g2; obtain ⟨y0, y1, y2, y3, y4, y5, y6, y7, y8, y9, y10, y11, y12, y13, y14, y15⟩ := cells16 g2; clear z0 z1 z2 z3 z4 z5 z6 z7 z8 z9 z10 z11 z12 z13 z14 z15; have Hb2 := Lib.hid (And.intro g2 (And.intro bw2 bw2.size)); clear g2 bw2 hb2)
    | (fail))
  go_ret
  exact ⟨by first | rfl | simp, by first | exact Hb2.out.2.1 | exact Hb2.out.2.1.alloc Hb2.out.2.2 _ | exact pw_below_drewN (Hb2.out.2.1.alloc Hb2.out.2.2 _) _ | exact G1.out.2 | exact pw_below_drewN G1.out.2 _⟩
theorem ret_b {b c : Bool} (h : b = c) : Ending.returned (.bool b) = .returned (.bool c) := by rw [h]
theorem e0_nil : (⟨#[]⟩ : ByteArray).toList = ([] : List UInt8) := by rw [ByteArray.toList_eq]
theorem readMay_any (a0_0 : Int) (a0_1 : Int) (a0_2 : Bool) (a0_3 : ByteArray) (a0_4 : Int) (a0_5 : ByteArray) (a0_6 : ByteArray) (a0_7 : Int) (a0_8 : Int) (a0_9 : Int) (a0_10 : Int) (a0_11 : Int) (a0_12 : ByteArray) (a0_13 : ByteArray) (a0_14 : Int) (a0_15 : Bool) (w : World) :
    Calls Try.prog 78 #[.agg #[.int .i64 a0_0, .int .i64 a0_1, .bool a0_2, .string a0_3, .int .i64 a0_4, .string a0_5, .string a0_6, .int .i64 a0_7, .int .i64 a0_8, .int .i64 a0_9, .int .i64 a0_10, .int .i64 a0_11, .string a0_12, .string a0_13, .int .i64 a0_14, .bool a0_15]] w fun e w' => e = .returned (.bool (readB a0_3 a0_4 a0_5 a0_6 a0_7 a0_9 a0_10 a0_11 a0_12 a0_13 a0_14 a0_15)) ∧ Below w.heap.size w w' := by
  cases hu : usrB a0_3 with
  | false =>
    exact (read_u _ _ _ _ _ _ _ _ _ _ _ _ _ _ _ _ w hu).mono fun e w' h => ⟨h.1.trans (ret_b (by simp [readB, opZ, resZ, rowZ, e0_nil, hu])), h.2⟩
  | true =>
    by_cases c_a0_4 : a0_4 = 0
    · subst c_a0_4
      by_cases c_a0_5 : a0_5.toList = ([] : List UInt8)
      · obtain rfl : a0_5 = ⟨#[]⟩ := str_nil c_a0_5
        clear c_a0_5
        by_cases c_a0_6 : a0_6.toList = ([] : List UInt8)
        · obtain rfl : a0_6 = ⟨#[]⟩ := str_nil c_a0_6
          clear c_a0_6
          by_cases c_a0_7 : a0_7 = 0
          · subst c_a0_7
            by_cases c_a0_10 : a0_10 = 0
            · subst c_a0_10
              by_cases c_a0_11 : a0_11 = 0
              · subst c_a0_11
                by_cases c_a0_9 : a0_9 = (-1)
                · subst c_a0_9
                  cases a0_15 with
                  | false =>
                    by_cases c_a0_12 : a0_12.toList = ([] : List UInt8)
                    · obtain rfl : a0_12 = ⟨#[]⟩ := str_nil c_a0_12
                      clear c_a0_12
                      by_cases c_a0_13 : a0_13.toList = ([] : List UInt8)
                      · obtain rfl : a0_13 = ⟨#[]⟩ := str_nil c_a0_13
                        clear c_a0_13
                        by_cases c_a0_14 : a0_14 = 0
                        · subst c_a0_14
                          exact (read_nmz _ _ _ _ _ w hu).mono fun e w' h => ⟨h.1.trans (ret_b (by simp [readB, opZ, resZ, rowZ, e0_nil, hu])), h.2⟩
                        · exact (read_nm14 _ _ _ _ _ _ w hu (by simpa using c_a0_14)).mono fun e w' h => ⟨h.1.trans (ret_b (by simp [readB, opZ, resZ, rowZ, e0_nil, hu, c_a0_14])), h.2⟩
                      · exact (read_nm13 _ _ _ _ _ _ _ w hu (by simpa using c_a0_13)).mono fun e w' h => ⟨h.1.trans (ret_b (by simp [readB, opZ, resZ, rowZ, e0_nil, hu, c_a0_13])), h.2⟩
                    · exact (read_nm12 _ _ _ _ _ _ _ _ w hu (by simpa using c_a0_12)).mono fun e w' h => ⟨h.1.trans (ret_b (by simp [readB, opZ, resZ, rowZ, e0_nil, hu, c_a0_12])), h.2⟩
                  | true =>
                    by_cases c_a0_12 : a0_12.toList = ([] : List UInt8)
                    · obtain rfl : a0_12 = ⟨#[]⟩ := str_nil c_a0_12
                      clear c_a0_12
                      by_cases c_a0_13 : a0_13.toList = ([] : List UInt8)
                      · obtain rfl : a0_13 = ⟨#[]⟩ := str_nil c_a0_13
                        clear c_a0_13
                        by_cases c_a0_14 : a0_14 = 0
                        · subst c_a0_14
                          exact (read_nfz _ _ _ _ _ w hu).mono fun e w' h => ⟨h.1.trans (ret_b (by simp [readB, opZ, resZ, rowZ, e0_nil, hu])), h.2⟩
                        · exact (read_nf14 _ _ _ _ _ _ w hu (by simpa using c_a0_14)).mono fun e w' h => ⟨h.1.trans (ret_b (by simp [readB, opZ, resZ, rowZ, e0_nil, hu, c_a0_14])), h.2⟩
                      · exact (read_nf13 _ _ _ _ _ _ _ w hu (by simpa using c_a0_13)).mono fun e w' h => ⟨h.1.trans (ret_b (by simp [readB, opZ, resZ, rowZ, e0_nil, hu, c_a0_13])), h.2⟩
                    · exact (read_nf12 _ _ _ _ _ _ _ _ w hu (by simpa using c_a0_12)).mono fun e w' h => ⟨h.1.trans (ret_b (by simp [readB, opZ, resZ, rowZ, e0_nil, hu, c_a0_12])), h.2⟩
                · cases a0_15 with
                  | false =>
                    by_cases c_a0_12 : a0_12.toList = ([] : List UInt8)
                    · obtain rfl : a0_12 = ⟨#[]⟩ := str_nil c_a0_12
                      clear c_a0_12
                      by_cases c_a0_13 : a0_13.toList = ([] : List UInt8)
                      · obtain rfl : a0_13 = ⟨#[]⟩ := str_nil c_a0_13
                        clear c_a0_13
                        by_cases c_a0_14 : a0_14 = 0
                        · subst c_a0_14
                          exact (read_emz _ _ _ _ _ _ w hu (by simpa using c_a0_9)).mono fun e w' h => ⟨h.1.trans (ret_b (by simp [readB, opZ, resZ, rowZ, e0_nil, hu, c_a0_9])), h.2⟩
                        · exact (read_em14 _ _ _ _ _ _ _ w hu (by simpa using c_a0_9) (by simpa using c_a0_14)).mono fun e w' h => ⟨h.1.trans (ret_b (by simp [readB, opZ, resZ, rowZ, e0_nil, hu, c_a0_9, c_a0_14])), h.2⟩
                      · exact (read_em13 _ _ _ _ _ _ _ _ w hu (by simpa using c_a0_9) (by simpa using c_a0_13)).mono fun e w' h => ⟨h.1.trans (ret_b (by simp [readB, opZ, resZ, rowZ, e0_nil, hu, c_a0_9, c_a0_13])), h.2⟩
                    · exact (read_em12 _ _ _ _ _ _ _ _ _ w hu (by simpa using c_a0_9) (by simpa using c_a0_12)).mono fun e w' h => ⟨h.1.trans (ret_b (by simp [readB, opZ, resZ, rowZ, e0_nil, hu, c_a0_9, c_a0_12])), h.2⟩
                  | true =>
                    cases hk : (a0_12.toList == a0_3.toList) with
                    | false =>
                      exact (read_efk _ _ _ _ _ _ _ _ _ w hu (by simpa using c_a0_9) hk).mono fun e w' h => ⟨h.1.trans (ret_b (by simp [readB, opZ, resZ, rowZ, e0_nil, hu, c_a0_9, hk])), h.2⟩
                    | true =>
                      cases hs : decide ((a0_13.size : Int) ≤ 65536) with
                      | false =>
                        exact (read_efs _ _ _ _ _ _ _ _ _ w hu (by simpa using c_a0_9) hk hs).mono fun e w' h => ⟨h.1.trans (ret_b (by simp [readB, opZ, resZ, rowZ, e0_nil, hu, c_a0_9, hk, hs])), h.2⟩
                      | true =>
                        exact (read_efw _ _ _ _ _ _ _ _ _ w hu (by simpa using c_a0_9) hk hs _ rfl).mono fun e w' h => ⟨h.1.trans (ret_b (by simp [readB, opZ, resZ, rowZ, e0_nil, hu, c_a0_9, hk, hs])), h.2⟩
              · exact (read_o11 _ _ _ _ _ _ _ _ _ _ _ w hu (by simpa using c_a0_11)).mono fun e w' h => ⟨h.1.trans (ret_b (by simp [readB, opZ, resZ, rowZ, e0_nil, hu, c_a0_11])), h.2⟩
            · exact (read_o10 _ _ _ _ _ _ _ _ _ _ _ _ w hu (by simpa using c_a0_10)).mono fun e w' h => ⟨h.1.trans (ret_b (by simp [readB, opZ, resZ, rowZ, e0_nil, hu, c_a0_10])), h.2⟩
          · exact (read_o7 _ _ _ _ _ _ _ _ _ _ _ _ _ w hu (by simpa using c_a0_7)).mono fun e w' h => ⟨h.1.trans (ret_b (by simp [readB, opZ, resZ, rowZ, e0_nil, hu, c_a0_7])), h.2⟩
        · exact (read_o6 _ _ _ _ _ _ _ _ _ _ _ _ _ _ w hu (by simpa using c_a0_6)).mono fun e w' h => ⟨h.1.trans (ret_b (by simp [readB, opZ, resZ, rowZ, e0_nil, hu, c_a0_6])), h.2⟩
      · exact (read_o5 _ _ _ _ _ _ _ _ _ _ _ _ _ _ _ w hu (by simpa using c_a0_5)).mono fun e w' h => ⟨h.1.trans (ret_b (by simp [readB, opZ, resZ, rowZ, e0_nil, hu, c_a0_5])), h.2⟩
    · exact (read_o4 _ _ _ _ _ _ _ _ _ _ _ _ _ _ _ _ w hu (by simpa using c_a0_4)).mono fun e w' h => ⟨h.1.trans (ret_b (by simp [readB, opZ, resZ, rowZ, e0_nil, hu, c_a0_4])), h.2⟩
/-! ### delta_within: function 85 -/
def delta_within.f (a0 : Int) (a1 : Int) (a2 : Int) : Option (Bool) := if a0 ≥ a1 then (some (decide (a0 ≤ a2))) else (some false)
set_option maxHeartbeats 8000000 in
set_option maxRecDepth 100000 in
theorem delta_within.calls (a0 : Int) (a1 : Int) (a2 : Int) (r : Bool) (w : World) (h : delta_within.f a0 a1 a2 = some r) :
    Calls Try.prog 85 #[.int .i64 a0, .int .i64 a1, .int .i64 a2] w fun e w' => e = .returned (.bool r) ∧ Drawn0 w w' := by
  have H : (if a0 ≥ a1 then (some (decide (a0 ≤ a2))) else (some false)) = some r := h
  clear h
  by_cases c4 : a0 ≥ a1
  · rw [if_pos c4] at H
    have c4b0 : decide (a1 ≤ a0) = true := decide_eq_true c4
    clear c4
    obtain rfl := Option.some.inj H
    go_enter Try.func85, Try.ntmps85
    go_wp2
    go_ret
    exact ⟨by first | rfl | (simp; done) | (simp [*]; done), by repeat (first | exact Drawn0.refl _ | apply Drawn0.step)⟩
  · rw [if_neg c4] at H
    have c4b0 : decide (a1 ≤ a0) = false := decide_eq_false c4
    clear c4
    obtain rfl := Option.some.inj H
    go_enter Try.func85, Try.ntmps85
    go_wp2
    go_ret
    exact ⟨by first | rfl | (simp; done) | (simp [*]; done), by repeat (first | exact Drawn0.refl _ | apply Drawn0.step)⟩

end Go.Proofs.Ytbakmkoppieelaa.PLinearChecks

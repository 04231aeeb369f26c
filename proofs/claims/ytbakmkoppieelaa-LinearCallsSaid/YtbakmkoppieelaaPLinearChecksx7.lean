/- What is proved: contracts of the functions that the law uses, each under the conditions that its theorem states. Written by a program of this session: texts of the kit's print, and texts by hand for the functions that the print does not take. -/
import Derived.Test.YtbakmkoppieelaaPLinearChecksx0
import Derived.Test.YtbakmkoppieelaaPLinearChecksx1
import Derived.Test.YtbakmkoppieelaaPLinearChecksx2
import Derived.Test.YtbakmkoppieelaaPLinearChecksx4
namespace Go.Proofs.Ytbakmkoppieelaa.PLinearChecks
open Go.RowKit Go.Proofs.YtbakmkoppieelaaW.PrintWords Go.Proofs.YtbakmkoppieelaaW.PrintLast Go.Proofs.YtbakmkoppieelaaW.PrintMore
attribute [local go_sem] max2_int min2_int max_two min_two max_three min_three max_four min_four   -- for this text's walks alone
set_option linter.unusedVariables false
set_option linter.unusedSimpArgs false

attribute [local go_sem high] eqA39
-- NOT PRINTED: function 17 (hawserref26_Check)

/-! ### hawserlaw26_sameCalls: function 25 -/
mutual
def hawserlaw26_sameCalls.l0 : Nat → List (S39) → List (S39) → Int → Option (Bool)
  | 0, _, _, _ => none
  | k + 1, x0, x1, x5 => if x5 < (x0.length : Int) then (hawserlaw26_sameCalls.j1 k x0 x1 x5 (decide (x5 < (x1.length : Int)))) else (hawserlaw26_sameCalls.j1 k x0 x1 x5 false)
def hawserlaw26_sameCalls.j1 : Nat → List (S39) → List (S39) → Int → Bool → Option (Bool)
  | 0, _, _, _, _ => none
  | k + 1, x0, x1, x5, x15 => if x15 = true then (if 0 ≤ x5 then (if x5 < (x0.length : Int) then (if x5 < (x1.length : Int) then (if (!(((rd_T39 x0 x5).f0) == ((rd_T39 x1 x5).f0)) || (!(((rd_T39 x0 x5).f1) == ((rd_T39 x1 x5).f1)) || (!(((rd_T39 x0 x5).f2) == ((rd_T39 x1 x5).f2)) || (!((((rd_T39 x0 x5).f3).toList) == (((rd_T39 x1 x5).f3).toList)) || ((!(((rd_T39 x0 x5).f4.f0) == ((rd_T39 x1 x5).f4.f0)) || (!((((rd_T39 x0 x5).f4.f1).toList) == (((rd_T39 x1 x5).f4.f1).toList)) || (!((((rd_T39 x0 x5).f4.f2).toList) == (((rd_T39 x1 x5).f4.f2).toList)) || (!(((rd_T39 x0 x5).f4.f3) == ((rd_T39 x1 x5).f4.f3)))))) || (!(((rd_T39 x0 x5).f5) == ((rd_T39 x1 x5).f5)) || (!(((rd_T39 x0 x5).f6) == ((rd_T39 x1 x5).f6)) || ((!(((rd_T39 x0 x5).f7.f0) == ((rd_T39 x1 x5).f7.f0)) || (!(((rd_T39 x0 x5).f7.f1) == ((rd_T39 x1 x5).f7.f1)))) || ((!((((rd_T39 x0 x5).f8.f0).toList) == (((rd_T39 x1 x5).f8.f0).toList)) || (!((((rd_T39 x0 x5).f8.f1).toList) == (((rd_T39 x1 x5).f8.f1).toList)) || (!(((rd_T39 x0 x5).f8.f2) == ((rd_T39 x1 x5).f8.f2))))) || (!(((rd_T39 x0 x5).f9) == ((rd_T39 x1 x5).f9)))))))))))) = true then (some false) else (hawserlaw26_sameCalls.l0 k x0 x1 (wrap64 (x5 + 1)))) else (none)) else (none)) else (none)) else (some ((x0.length : Int) == (x1.length : Int)))
end
def hawserlaw26_sameCalls.f (k : Nat) (l0 : List (S39)) (l1 : List (S39)) : Option (Bool) := hawserlaw26_sameCalls.l0 k l0 l1 0
theorem hawserlaw26_sameCalls.mono_l : ∀ k, (∀ y0 y1 y2, LeO (hawserlaw26_sameCalls.l0 k y0 y1 y2) (hawserlaw26_sameCalls.l0 (k + 1) y0 y1 y2)) ∧ (∀ y0 y1 y2 y3, LeO (hawserlaw26_sameCalls.j1 k y0 y1 y2 y3) (hawserlaw26_sameCalls.j1 (k + 1) y0 y1 y2 y3))
  | 0 => ⟨fun _ _ _ r h => by simp [hawserlaw26_sameCalls.l0] at h, fun _ _ _ _ r h => by simp [hawserlaw26_sameCalls.j1] at h⟩
  | k + 1 => by
    obtain ⟨ih0, ih1⟩ := hawserlaw26_sameCalls.mono_l k
    refine ⟨?_, ?_⟩
    · intro y0 y1 y2
      unfold hawserlaw26_sameCalls.l0
      repeat' first
      | (with_reducible exact ih0 _ _ _)
      | (with_reducible exact ih1 _ _ _ _)
      | (with_reducible exact LeO.refl _)
      | (with_reducible exact LeO.none _)
      | (with_reducible refine LeO.ite ?_ ?_)
      | (with_reducible refine LeO.bind ?_ (fun _ => ?_))
      | exact ih0 _ _ _
      | exact ih1 _ _ _ _
      | exact LeO.none _
      | refine LeO.ite ?_ ?_
      | refine LeO.bind ?_ (fun _ => ?_)
    · intro y0 y1 y2 y3
      unfold hawserlaw26_sameCalls.j1
      repeat' first
      | (with_reducible exact ih0 _ _ _)
      | (with_reducible exact ih1 _ _ _ _)
      | (with_reducible exact LeO.refl _)
      | (with_reducible exact LeO.none _)
      | (with_reducible refine LeO.ite ?_ ?_)
      | (with_reducible refine LeO.bind ?_ (fun _ => ?_))
      | exact ih0 _ _ _
      | exact ih1 _ _ _ _
      | exact LeO.none _
      | refine LeO.ite ?_ ?_
      | refine LeO.bind ?_ (fun _ => ?_)
theorem hawserlaw26_sameCalls.mono : ∀ a0 a1 k, LeO (hawserlaw26_sameCalls.f k a0 a1) (hawserlaw26_sameCalls.f (k + 1) a0 a1) := by
  intro a0 a1 k
  obtain ⟨ih0, ih1⟩ := hawserlaw26_sameCalls.mono_l k
  unfold hawserlaw26_sameCalls.f
  repeat' first
      | (with_reducible exact ih0 _ _ _)
      | (with_reducible exact ih1 _ _ _ _)
      | (with_reducible exact LeO.refl _)
      | (with_reducible exact LeO.none _)
      | (with_reducible refine LeO.ite ?_ ?_)
      | (with_reducible refine LeO.bind ?_ (fun _ => ?_))
      | exact ih0 _ _ _
      | exact ih1 _ _ _ _
      | exact LeO.none _
      | refine LeO.ite ?_ ?_
      | refine LeO.bind ?_ (fun _ => ?_)
set_option maxHeartbeats 8000000 in
set_option maxRecDepth 100000 in
theorem hawserlaw26_sameCalls.calls (k : Nat) (A0 : Option Addr) (c0 : Nat) (l0 : List (S39)) (A1 : Option Addr) (c1 : Nat) (l1 : List (S39)) (r : Bool) (w : World) (hr0 : Kd.C k39 w A0 l0.length l0) (hc0 : l0.length ≤ c0) (hr1 : Kd.C k39 w A1 l1.length l1) (hc1 : l1.length ≤ c1) (h : hawserlaw26_sameCalls.f k l0 l1 = some r) :
    Calls Try.prog 25 #[.slice A0 l0.length c0, .slice A1 l1.length c1] w fun e w' => e = .returned (.bool r) ∧ Drawn0 w w' := by
  have hu39 := Try.underlying39
  have HR0 := Aside0.mk hr0
  have HC0 := Aside0.mk hc0
  clear hr0 hc0
  have HR1 := Aside0.mk hr1
  have HC1 := Aside0.mk hc1
  clear hr1 hc1
  have H : (hawserlaw26_sameCalls.l0 k l0 l1 0) = some r := h
  clear h
  have H' := Aside0.mk H
  clear H
  go_enter Try.func25, Try.ntmps25
  go_wp2
  repeat (go_quiet (fail); try go_wp2)
  go_loopg [5] k (fun kq v5 w' => ∃ (x5_1 : Int), v5 = .int .i64 x5_1 ∧ Aside0 (hawserlaw26_sameCalls.l0 kq l0 l1 x5_1 = some r) ∧ Aside0 (kq ≤ k) ∧ Drawn0 w w')
  case atStart => exact ⟨(0), (by first | rfl | (simp; done) | (simp [*]; done)), H', ⟨Nat.le_refl _⟩, by repeat (first | exact Drawn0.refl _ | apply Drawn0.step)⟩
  case round =>
    clear H'
    try clear c1
    try clear c2
    try clear p2
    obtain ⟨x5_1, rfl, HA, HK1, ⟨m1, rfl⟩⟩ := hrel
    cases gk with
    | zero => exact absurd HA.out (by simp [hawserlaw26_sameCalls.l0])
    | succ k1 =>
      have H := HA.out
      clear HA
      simp only [hawserlaw26_sameCalls.l0] at H
      have HC3 := Aside0.mk H
      clear H
      go_upto_region 2 with (fail)
      repeat (go_quiet (fail); go_upto_region 2 with (fail))
      go_cut [15] (fun v15 wc => ∃ (kq : Nat) (x15_2 : Bool), v15 = .bool x15_2 ∧ Aside0 (hawserlaw26_sameCalls.j1 kq l0 l1 x5_1 x15_2 = some r) ∧ Aside0 (kq ≤ k1) ∧ Drawn0 w wc)
      case first =>
        have H := HC3.out
        clear HC3
        by_cases c4 : x5_1 < (l0.length : Int)
        · rw [if_pos c4] at H
          have c4b0 : decide (x5_1 < (l0.length : Int)) = true := decide_eq_true c4
          clear c4
          (first | rw [c4b0] | (simp only [i64_w, i32_w]; rw [c4b0]) | skip)
          have H' := Aside0.mk H
          clear H
          go_wp2
          repeat (go_quiet (fail); try go_wp2)
          go_meet
          case rel => exact ⟨_, (decide (x5_1 < (l1.length : Int))), (by first | rfl | (simp; done) | (simp [*]; done)), H', ⟨by have := HK1.out; first | omega | exact Nat.le_refl _⟩, by repeat (first | exact Drawn0.refl _ | apply Drawn0.step)⟩
        · rw [if_neg c4] at H
          have c4b0 : decide (x5_1 < (l0.length : Int)) = false := decide_eq_false c4
          clear c4
          (first | rw [c4b0] | (simp only [i64_w, i32_w]; rw [c4b0]) | skip)
          have H' := Aside0.mk H
          clear H
          go_wp2
          repeat (go_quiet (fail); try go_wp2)
          go_meet
          case rel => exact ⟨_, (false), (by first | rfl | (simp; done) | (simp [*]; done)), H', ⟨by have := HK1.out; first | omega | exact Nat.le_refl _⟩, by repeat (first | exact Drawn0.refl _ | apply Drawn0.step)⟩
      case rest =>
        clear HC3
        try clear c1
        try clear c2
        try clear p2
        try clear c4
        try clear c4b0
        try clear p2
        obtain ⟨kq, x15_2, rfl, HA, HJ2, ⟨mc2, rfl⟩⟩ := hcut
        cases kq with
        | zero => exact absurd HA.out (by simp [hawserlaw26_sameCalls.j1])
        | succ kj2 =>
          have H := HA.out
          clear HA
          simp only [hawserlaw26_sameCalls.j1] at H
          by_cases c5 : x15_2 = true
          · subst c5
            have H1 : (if 0 ≤ x5_1 then (if x5_1 < (l0.length : Int) then (if x5_1 < (l1.length : Int) then (if (!(((rd_T39 l0 x5_1).f0) == ((rd_T39 l1 x5_1).f0)) || (!(((rd_T39 l0 x5_1).f1) == ((rd_T39 l1 x5_1).f1)) || (!(((rd_T39 l0 x5_1).f2) == ((rd_T39 l1 x5_1).f2)) || (!((((rd_T39 l0 x5_1).f3).toList) == (((rd_T39 l1 x5_1).f3).toList)) || ((!(((rd_T39 l0 x5_1).f4.f0) == ((rd_T39 l1 x5_1).f4.f0)) || (!((((rd_T39 l0 x5_1).f4.f1).toList) == (((rd_T39 l1 x5_1).f4.f1).toList)) || (!((((rd_T39 l0 x5_1).f4.f2).toList) == (((rd_T39 l1 x5_1).f4.f2).toList)) || (!(((rd_T39 l0 x5_1).f4.f3) == ((rd_T39 l1 x5_1).f4.f3)))))) || (!(((rd_T39 l0 x5_1).f5) == ((rd_T39 l1 x5_1).f5)) || (!(((rd_T39 l0 x5_1).f6) == ((rd_T39 l1 x5_1).f6)) || ((!(((rd_T39 l0 x5_1).f7.f0) == ((rd_T39 l1 x5_1).f7.f0)) || (!(((rd_T39 l0 x5_1).f7.f1) == ((rd_T39 l1 x5_1).f7.f1)))) || ((!((((rd_T39 l0 x5_1).f8.f0).toList) == (((rd_T39 l1 x5_1).f8.f0).toList)) || (!((((rd_T39 l0 x5_1).f8.f1).toList) == (((rd_T39 l1 x5_1).f8.f1).toList)) || (!(((rd_T39 l0 x5_1).f8.f2) == ((rd_T39 l1 x5_1).f8.f2))))) || (!(((rd_T39 l0 x5_1).f9) == ((rd_T39 l1 x5_1).f9)))))))))))) = true then (some false) else (hawserlaw26_sameCalls.l0 kj2 l0 l1 (wrap64 (x5_1 + 1)))) else (none)) else (none)) else (none)) = some r := by rw [if_pos rfl] at H; exact H
            clear H
            have H := H1
            clear H1
            by_cases c6 : 0 ≤ x5_1
            · rw [if_pos c6] at H
              have c6b0 : decide (0 ≤ x5_1) = true := decide_eq_true c6
              clear c6
              by_cases c7 : x5_1 < (l0.length : Int)
              · rw [if_pos c7] at H
                have c7b0 : decide (x5_1 < (l0.length : Int)) = true := decide_eq_true c7
                clear c7
                by_cases c8 : x5_1 < (l1.length : Int)
                · rw [if_pos c8] at H
                  have c8b0 : decide (x5_1 < (l1.length : Int)) = true := decide_eq_true c8
                  clear c8
                  by_cases c9 : (!(((rd_T39 l0 x5_1).f0) == ((rd_T39 l1 x5_1).f0)) || (!(((rd_T39 l0 x5_1).f1) == ((rd_T39 l1 x5_1).f1)) || (!(((rd_T39 l0 x5_1).f2) == ((rd_T39 l1 x5_1).f2)) || (!((((rd_T39 l0 x5_1).f3).toList) == (((rd_T39 l1 x5_1).f3).toList)) || ((!(((rd_T39 l0 x5_1).f4.f0) == ((rd_T39 l1 x5_1).f4.f0)) || (!((((rd_T39 l0 x5_1).f4.f1).toList) == (((rd_T39 l1 x5_1).f4.f1).toList)) || (!((((rd_T39 l0 x5_1).f4.f2).toList) == (((rd_T39 l1 x5_1).f4.f2).toList)) || (!(((rd_T39 l0 x5_1).f4.f3) == ((rd_T39 l1 x5_1).f4.f3)))))) || (!(((rd_T39 l0 x5_1).f5) == ((rd_T39 l1 x5_1).f5)) || (!(((rd_T39 l0 x5_1).f6) == ((rd_T39 l1 x5_1).f6)) || ((!(((rd_T39 l0 x5_1).f7.f0) == ((rd_T39 l1 x5_1).f7.f0)) || (!(((rd_T39 l0 x5_1).f7.f1) == ((rd_T39 l1 x5_1).f7.f1)))) || ((!((((rd_T39 l0 x5_1).f8.f0).toList) == (((rd_T39 l1 x5_1).f8.f0).toList)) || (!((((rd_T39 l0 x5_1).f8.f1).toList) == (((rd_T39 l1 x5_1).f8.f1).toList)) || (!(((rd_T39 l0 x5_1).f8.f2) == ((rd_T39 l1 x5_1).f8.f2))))) || (!(((rd_T39 l0 x5_1).f9) == ((rd_T39 l1 x5_1).f9)))))))))))) = true
                  · rw [if_pos c9] at H
                    have c9b0 : (!(((rd_T39 l0 x5_1).f0) == ((rd_T39 l1 x5_1).f0)) || (!(((rd_T39 l0 x5_1).f1) == ((rd_T39 l1 x5_1).f1)) || (!(((rd_T39 l0 x5_1).f2) == ((rd_T39 l1 x5_1).f2)) || (!((((rd_T39 l0 x5_1).f3).toList) == (((rd_T39 l1 x5_1).f3).toList)) || ((!(((rd_T39 l0 x5_1).f4.f0) == ((rd_T39 l1 x5_1).f4.f0)) || (!((((rd_T39 l0 x5_1).f4.f1).toList) == (((rd_T39 l1 x5_1).f4.f1).toList)) || (!((((rd_T39 l0 x5_1).f4.f2).toList) == (((rd_T39 l1 x5_1).f4.f2).toList)) || (!(((rd_T39 l0 x5_1).f4.f3) == ((rd_T39 l1 x5_1).f4.f3)))))) || (!(((rd_T39 l0 x5_1).f5) == ((rd_T39 l1 x5_1).f5)) || (!(((rd_T39 l0 x5_1).f6) == ((rd_T39 l1 x5_1).f6)) || ((!(((rd_T39 l0 x5_1).f7.f0) == ((rd_T39 l1 x5_1).f7.f0)) || (!(((rd_T39 l0 x5_1).f7.f1) == ((rd_T39 l1 x5_1).f7.f1)))) || ((!((((rd_T39 l0 x5_1).f8.f0).toList) == (((rd_T39 l1 x5_1).f8.f0).toList)) || (!((((rd_T39 l0 x5_1).f8.f1).toList) == (((rd_T39 l1 x5_1).f8.f1).toList)) || (!(((rd_T39 l0 x5_1).f8.f2) == ((rd_T39 l1 x5_1).f8.f2))))) || (!(((rd_T39 l0 x5_1).f9) == ((rd_T39 l1 x5_1).f9)))))))))))) = true := c9
                    clear c9
                    obtain rfl := Option.some.inj H
                    have p130 : 0 ≤ (x5_1 : Int) := of_decide_eq_true (by first | (with_reducible assumption) | assumption)
                    have q130 : x5_1 < (l0.length : Int) := of_decide_eq_true (by first | (with_reducible assumption) | assumption)
                    obtain ⟨ad130, e130, hx130_0, hx130_1, hx130_2, hx130_3, hx130_4, hx130_5, hx130_6, hx130_7, hx130_8, hx130_9, hx130_10, hx130_11, hx130_12, hx130_13, hx130_14, hx130_15⟩ := at_T39 HR0.out x5_1 p130 q130
                    cases e130
                    replace p130 := eq_true p130
                    replace q130 := eq_true q130
                    have p131 : 0 ≤ (x5_1 : Int) := of_decide_eq_true (by first | (with_reducible assumption) | assumption)
                    have q131 : x5_1 < (l1.length : Int) := of_decide_eq_true (by first | (with_reducible assumption) | assumption)
                    obtain ⟨ad131, e131, hx131_0, hx131_1, hx131_2, hx131_3, hx131_4, hx131_5, hx131_6, hx131_7, hx131_8, hx131_9, hx131_10, hx131_11, hx131_12, hx131_13, hx131_14, hx131_15⟩ := at_T39 HR1.out x5_1 p131 q131
                    cases e131
                    replace p131 := eq_true p131
                    replace q131 := eq_true q131
                    go_wp2
                    repeat (go_quiet (fail); try go_wp2)
                    go_ret
                    exact ⟨by first | rfl | (simp; done) | (simp [*]; done), by repeat (first | exact Drawn0.refl _ | apply Drawn0.step)⟩
                  · rw [if_neg c9] at H
                    have c9b0 : (!(((rd_T39 l0 x5_1).f0) == ((rd_T39 l1 x5_1).f0)) || (!(((rd_T39 l0 x5_1).f1) == ((rd_T39 l1 x5_1).f1)) || (!(((rd_T39 l0 x5_1).f2) == ((rd_T39 l1 x5_1).f2)) || (!((((rd_T39 l0 x5_1).f3).toList) == (((rd_T39 l1 x5_1).f3).toList)) || ((!(((rd_T39 l0 x5_1).f4.f0) == ((rd_T39 l1 x5_1).f4.f0)) || (!((((rd_T39 l0 x5_1).f4.f1).toList) == (((rd_T39 l1 x5_1).f4.f1).toList)) || (!((((rd_T39 l0 x5_1).f4.f2).toList) == (((rd_T39 l1 x5_1).f4.f2).toList)) || (!(((rd_T39 l0 x5_1).f4.f3) == ((rd_T39 l1 x5_1).f4.f3)))))) || (!(((rd_T39 l0 x5_1).f5) == ((rd_T39 l1 x5_1).f5)) || (!(((rd_T39 l0 x5_1).f6) == ((rd_T39 l1 x5_1).f6)) || ((!(((rd_T39 l0 x5_1).f7.f0) == ((rd_T39 l1 x5_1).f7.f0)) || (!(((rd_T39 l0 x5_1).f7.f1) == ((rd_T39 l1 x5_1).f7.f1)))) || ((!((((rd_T39 l0 x5_1).f8.f0).toList) == (((rd_T39 l1 x5_1).f8.f0).toList)) || (!((((rd_T39 l0 x5_1).f8.f1).toList) == (((rd_T39 l1 x5_1).f8.f1).toList)) || (!(((rd_T39 l0 x5_1).f8.f2) == ((rd_T39 l1 x5_1).f8.f2))))) || (!(((rd_T39 l0 x5_1).f9) == ((rd_T39 l1 x5_1).f9)))))))))))) = false := by simpa using c9
                    clear c9
                    have H' := Aside0.mk H
                    clear H
                    have p130 : 0 ≤ (x5_1 : Int) := of_decide_eq_true (by first | (with_reducible assumption) | assumption)
                    have q130 : x5_1 < (l0.length : Int) := of_decide_eq_true (by first | (with_reducible assumption) | assumption)
                    obtain ⟨ad130, e130, hx130_0, hx130_1, hx130_2, hx130_3, hx130_4, hx130_5, hx130_6, hx130_7, hx130_8, hx130_9, hx130_10, hx130_11, hx130_12, hx130_13, hx130_14, hx130_15⟩ := at_T39 HR0.out x5_1 p130 q130
                    cases e130
                    replace p130 := eq_true p130
                    replace q130 := eq_true q130
                    have p131 : 0 ≤ (x5_1 : Int) := of_decide_eq_true (by first | (with_reducible assumption) | assumption)
                    have q131 : x5_1 < (l1.length : Int) := of_decide_eq_true (by first | (with_reducible assumption) | assumption)
                    obtain ⟨ad131, e131, hx131_0, hx131_1, hx131_2, hx131_3, hx131_4, hx131_5, hx131_6, hx131_7, hx131_8, hx131_9, hx131_10, hx131_11, hx131_12, hx131_13, hx131_14, hx131_15⟩ := at_T39 HR1.out x5_1 p131 q131
                    cases e131
                    replace p131 := eq_true p131
                    replace q131 := eq_true q131
                    go_wp2
                    repeat (go_quiet (fail); try go_wp2)
                    go_roundg kj2
                    case measure => have := HK1.out; have := HJ2.out; omega
                    case rel => exact ⟨(wrap64 (x5_1 + 1)), (by first | rfl | (simp; done) | (simp [*]; done)), H', ⟨by have := HK1.out; have := HJ2.out; omega⟩, by repeat (first | exact Drawn0.refl _ | apply Drawn0.step)⟩
                · rw [if_neg c8] at H
                  exact absurd H (by simp)
              · rw [if_neg c7] at H
                exact absurd H (by simp)
            · rw [if_neg c6] at H
              exact absurd H (by simp)
          · replace c5 := Bool.eq_false_iff.mpr c5
            subst c5
            have H1 : (some ((l0.length : Int) == (l1.length : Int))) = some r := by rw [if_neg (show ¬ (false = true) by decide)] at H; exact H
            clear H
            have H := H1
            clear H1
            obtain rfl := Option.some.inj H
            go_wp2
            repeat (go_quiet (fail); try go_wp2)
            go_ret
            exact ⟨by first | rfl | (simp; done) | (simp [*]; done), by repeat (first | exact Drawn0.refl _ | apply Drawn0.step)⟩

/-! ### hawserlaw26_kept: function 18 -/
/-! ### linear_Precedes: function 19 -/
/-! ### hawserref26_Precedes: function 20 -/
/-! ### hawserlaw26_own: function 21 -/
def hawserlaw26_own.f  : Option ((List (S39))) := some (([(⟨1, 1, false, (⟨#[97]⟩ : ByteArray), (⟨1, (⟨#[97]⟩ : ByteArray), (⟨#[120]⟩ : ByteArray), 0⟩ : S32), 0, 1, (⟨1, 1⟩ : S35), (⟨(⟨#[]⟩ : ByteArray), (⟨#[]⟩ : ByteArray), 0⟩ : S37), false⟩ : S39)] : List (S39)))
set_option maxHeartbeats 8000000 in
set_option maxRecDepth 100000 in
theorem hawserlaw26_own.calls  (r : List (S39)) (w : World) (h : hawserlaw26_own.f  = some r) :
    Calls Try.prog 21 #[] w fun e w' => ∃ v0_ : Value, e = .returned (v0_) ∧ Kd.R k39 39 w' w.heap.size (fun _ => True) v0_ r ∧ Below w.heap.size w w' := by
  have hu32 := Try.underlying32
  have hu35 := Try.underlying35
  have hu39 := Try.underlying39
  have HB := Aside0.mk (Below.refl w.heap.size w)
  have H : (some (([(⟨1, 1, false, (⟨#[97]⟩ : ByteArray), (⟨1, (⟨#[97]⟩ : ByteArray), (⟨#[120]⟩ : ByteArray), 0⟩ : S32), 0, 1, (⟨1, 1⟩ : S35), (⟨(⟨#[]⟩ : ByteArray), (⟨#[]⟩ : ByteArray), 0⟩ : S37), false⟩ : S39)] : List (S39)))) = some r := h
  clear h
  obtain ⟨y145, hy145⟩ : ∃ y_ : List (S39), y_ = (([(⟨1, 1, false, (⟨#[97]⟩ : ByteArray), (⟨1, (⟨#[97]⟩ : ByteArray), (⟨#[120]⟩ : ByteArray), 0⟩ : S32), 0, 1, (⟨1, 1⟩ : S35), (⟨(⟨#[]⟩ : ByteArray), (⟨#[]⟩ : ByteArray), 0⟩ : S37), false⟩ : S39)] : List (S39))) := ⟨_, rfl⟩
  replace H : (some y145) = some r := by first | (rw [hy145]; with_reducible exact H) | (have H2_ := (Option.bind_some _ _).symm.trans H; rw [hy145]; with_reducible exact H2_) | (have H2_ := (Option.bind_some _ _).symm.trans H; with_reducible exact H2_) | with_reducible exact H | (rw [hy145]; exact H) | exact H
  have Ny145 := Aside0.mk hy145
  clear hy145
  obtain rfl := Option.some.inj H
  go_enter Try.func21, Try.ntmps21
  go_wp2_with (first | ((with_reducible refine gate_dst (N := 4) rfl ?_); refine Kd.R_lit k39 _ 39 ?hg (N := 4) ?hd (xs := ([(⟨1, 1, false, (⟨#[97]⟩ : ByteArray), (⟨1, (⟨#[97]⟩ : ByteArray), (⟨#[120]⟩ : ByteArray), 0⟩ : S32), 0, 1, (⟨1, 1⟩ : S35), (⟨(⟨#[]⟩ : ByteArray), (⟨#[]⟩ : ByteArray), 0⟩ : S37), false⟩ : S39)] : List (S39))) (inner := [.int .i64 1, .int .i64 1, .bool false, .string (⟨#[97]⟩ : ByteArray), .int .i64 1, .string (⟨#[97]⟩ : ByteArray), .string (⟨#[120]⟩ : ByteArray), .int .i64 0, .int .i64 0, .int .i64 1, .int .i64 1, .int .i64 1, .string (⟨#[]⟩ : ByteArray), .string (⟨#[]⟩ : ByteArray), .int .i64 0, .bool false]) (ok := fun _ => True) (okp := fun _ => True) ?hr ?hp (fun _ hk => hk) trivial (Below.refl _ _) (Nat.le_refl _) (by simp) ?_; (case hd => rfl); (case hg => rfl); (case hr => first | (go_simp; done) | (go_simp; rfl)); (case hp => exact (Reps.front (show Kd.M k39 _ _ _ (⟨1, 1, false, (⟨#[97]⟩ : ByteArray), (⟨1, (⟨#[97]⟩ : ByteArray), (⟨#[120]⟩ : ByteArray), 0⟩ : S32), 0, 1, (⟨1, 1⟩ : S35), (⟨(⟨#[]⟩ : ByteArray), (⟨#[]⟩ : ByteArray), 0⟩ : S37), false⟩ : S39) [.int .i64 1, .int .i64 1, .bool false, .string (⟨#[97]⟩ : ByteArray), .int .i64 1, .string (⟨#[97]⟩ : ByteArray), .string (⟨#[120]⟩ : ByteArray), .int .i64 0, .int .i64 0, .int .i64 1, .int .i64 1, .int .i64 1, .string (⟨#[]⟩ : ByteArray), .string (⟨#[]⟩ : ByteArray), .int .i64 0, .bool false] from (k39_mkM _ _ _ (⟨1, 1, false, (⟨#[97]⟩ : ByteArray), (⟨1, (⟨#[97]⟩ : ByteArray), (⟨#[120]⟩ : ByteArray), 0⟩ : S32), 0, 1, (⟨1, 1⟩ : S35), (⟨(⟨#[]⟩ : ByteArray), (⟨#[]⟩ : ByteArray), 0⟩ : S37), false⟩ : S39) )) rfl (Reps.none _ _) rfl)); intro v146 w1 ho2 hb hg_ hnew_; clear hg_ hnew_; (first | rw [← Ny145.out] at ho2 | (simp only [Int.reduceToNat] at ho2; rw [← Ny145.out] at ho2)); have n0_ := Aside0.mk (Kd.R_lower ho2 (below_size (by repeat (first | (with_reducible first | exact HB.out | apply below_alloc | apply pw_below_drewN | apply below_drew1) | exact HB.out)))); have n1_ := Aside0.mk (below_step (by repeat (first | (with_reducible first | exact HB.out | apply below_alloc | apply pw_below_drewN | apply below_drew1) | exact HB.out)) hb); clear HB; have HO147 := n0_; have HB := n1_; clear n0_ n1_; clear hb ho2))
  go_ret
  exact ⟨_, by first | rfl | (simp [errW_none, errW_some] <;> rfl) | (simp [*, errW_none, errW_some] <;> rfl), by (with_reducible repeat (first | apply Kd.R_alloc | apply Kd.R_drewN | apply Kd.R_drew)); exact HO147.out, by repeat (first | (with_reducible first | exact HB.out | apply below_alloc | apply pw_below_drewN | apply below_drew1) | exact HB.out)⟩

-- NOT PRINTED: function 3 (hawserlaw26_LinearChecks)

end Go.Proofs.Ytbakmkoppieelaa.PLinearChecks

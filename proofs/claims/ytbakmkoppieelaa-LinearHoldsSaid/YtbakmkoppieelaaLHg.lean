/- What is proved: the walk of the law LinearHolds: it returns true; the conditions stand in the theorem. -/
import Derived.Test.YtbakmkoppieelaaLHf
import Derived.BigQuiet
import Derived.Deep.QuietTactic
namespace Go.Proofs.Ytbakmkoppieelaa.PLinearChecks
open Go.RowKit Go.Proofs.YtbakmkoppieelaaW.PrintWords Go.Proofs.YtbakmkoppieelaaW.PrintLast Go.Proofs.YtbakmkoppieelaaW.PrintMore
set_option linter.unusedVariables false
set_option linter.unusedSimpArgs false
theorem one_RI (W : World) (x : Int) : Kd.R (Kd.int .i64) 3 (W.alloc (.cells #[.int .i64 x] 3)) W.heap.size (fun _ => True) (.slice (some ⟨W.heap.size, 0, none⟩) 1 1) [x] := by
  refine ⟨fun k hk => trivial, [.int .i64 x], ?_, reps_ints [x]⟩
  have h2 := World.ownsRow_lit (base := W.heap.size) (e := 3) (size := (Kd.int .i64).sz) W #[.int .i64 x] 1 (Nat.le_refl _) (by decide) (by rfl)
  simpa using h2
theorem one_CI (W : World) (x : Int) : Kd.C (Kd.int .i64) (W.alloc (.cells #[.int .i64 x] 3)) (some ⟨W.heap.size, 0, none⟩) 1 [x] := (Kd.R_reads' (one_RI W x)).2.2
theorem ix_last (xs : List Int) (x : Int) : ix (xs ++ [x]) (xs.length : Int) = x := by
  unfold ix
  rw [Int.toNat_natCast, List.getD_eq_getElem?_getD, List.getElem?_append_right (Nat.le_refl _), Nat.sub_self]
  rfl
set_option maxRecDepth 100000 in
set_option maxHeartbeats 8000000 in
theorem sint_any (w : World) (A D : Option Addr) (c d : Nat) (xs : List Int) (hx : Kd.C (Kd.int .i64) w A xs.length xs) (hy : Kd.C (Kd.int .i64) w D xs.length xs) (hn : xs.length ≤ 100000000000000) :
    Calls Try.prog 31 #[.slice A xs.length c, .slice D xs.length d] w fun e w' => e = .returned (.bool true) ∧ Below w.heap.size w w' := by
  have HX := Lib.hid hx
  have HY := Lib.hid hy
  have HN := Lib.hid hn
  clear hx hy hn
  go_enter Try.func31, Try.ntmps31
  go_wp2
  go_loopw [5] (fun v5 wr => ∃ k : Int, v5 = .int .i64 k ∧ (0 ≤ k ∧ k ≤ (xs.length : Int)) ∧ RowKit.Hid (Below w.heap.size w wr)) (fun v5 _ => ((xs.length : Int) - intOf v5).toNat)
  case atStart => exact ⟨0, rfl, ⟨by omega, by omega⟩, Lib.hid (Below.refl _ _)⟩
  case round =>
    obtain ⟨k, rfl, ⟨k0, k1⟩, HB⟩ := hrel
    by_cases hlt : k < (xs.length : Int)
    · have c1 : decide (k < (xs.length : Int)) = true := decide_eq_true hlt
      have PK := Lib.hid (show 0 ≤ k ∧ k < (xs.length : Int) by omega)
      have pK := eq_true k0
      have qK := eq_true hlt
      have wi : wrap64 (k + 1) = k + 1 := by have h2 := HN.out; unfold wrap64; omega
      have wi2 : IntKind.i64.wrap (k + 1) = k + 1 := (i64_w _).trans wi
      obtain ⟨ad, eA, kx⟩ := int_at (Kd.C_below HX.out HB.out) k k0 hlt
      obtain ⟨ae, eD, ky⟩ := int_at (Kd.C_below HY.out HB.out) k k0 hlt
      cases eA
      cases eD
      obtain ⟨y, hy⟩ : ∃ y, ix xs k = y := ⟨_, rfl⟩
      rw [hy] at kx ky
      clear k0 k1 hlt hy
      go_upto_region 4 with ((fail))
      go_quiet (fail)
      have HB := Lib.hid (pw_below_drewN HB.out nq)
      clear kx ky
      go_wp2_with ((fail))
      go_roundw
      case rel => exact ⟨k + 1, by first | rfl | go_num, ⟨by have := PK.out; omega, by have := PK.out; omega⟩, HB⟩
      case measure => have := PK.out; simp [intOf]; omega
    · have hnl : decide (k < (xs.length : Int)) = false := decide_eq_false hlt
      have ek : k = (xs.length : Int) := by omega
      subst ek
      clear k0 k1 hlt
      go_wp2_with ((fail))
      go_ret
      exact ⟨by first | rfl | simp, HB.out⟩
set_option maxHeartbeats 64000000 in
set_option maxRecDepth 100000 in
theorem holdslaw_walk (w : World) (A Ax : Option Addr) (c cx : Nat) (l : List S39) (xs : List Int) (hr : Kd.C k39 w A l.length l) (hc : l.length ≤ c) (hx : Kd.C (Kd.int .i64) w Ax xs.length xs) (hcx : xs.length ≤ cx) (hn : l.length * 168 ≤ 140737488351232) (hnx : xs.length * 8 ≤ 140737488351232) (hwf : ∀ x ∈ l, wfC x) (hks : ∀ i : Int, 0 ≤ i → i < l.length → (rd_T39 l i).f3.size ≤ maxLen) :
    Calls Try.prog 10 #[.slice A l.length c, .slice Ax xs.length cx] w fun e w' => e = .returned (.bool true) ∧ Below w.heap.size w w' := by
  have HN := Lib.hid (show l.length ≤ 1000000000000 ∧ (l.length + 2) * 168 ≤ 140737488355328 ∧ xs.length ≤ 100000000000000 ∧ (xs.length + 1) * 8 ≤ 140737488355328 by omega)
  have HF := Lib.hid (And.intro hwf hks)
  have HC := Lib.hid (And.intro hc hcx)
  have RM := Lib.hid (roomy w A c l hr hc HN.out.2.1)
  have CA := Lib.hid hr
  have CX := Lib.hid hx
  have HB := Lib.hid (Below.refl w.heap.size w)
  obtain ⟨⟨pa, pe⟩, hpq⟩ : ∃ q, RowKit.Hid (hldA l xs = q) := ⟨_, Lib.hid rfl⟩
  have hrq := Lib.hid ((hld_eq (xs := xs) HN.out.1).trans hpq.out)
  clear hr hx hn hnx hwf hks hc hcx
  go_enter Try.func10, Try.ntmps10
  go_upto_region 2 with (first
    | (go_at_call 14; (with_reducible refine RM.out.mono ?_); rintro e_ W1 ⟨A', c', rfl, hc1, hR, hb⟩; have CM := Lib.hid (Kd.R_reads' hR).2.2; have HM := Lib.hid hc1; replace CA := Lib.hid (Kd.C_below CA.out hb); replace CX := Lib.hid (Kd.C_below CX.out hb); replace HB := Lib.hid (below_step HB.out hb); clear hb hc1 hR)
    | (fail))
  go_upto_region 3 with (first
    | ((with_reducible refine gate_dst (N := 14) rfl ?_); refine Kd.R_append_rows (Kd.int .i64) (Rr := (Kd.int .i64).K W1) (w0 := W1) W1.heap.size rfl (.const (.slice none 0 0)) (.tmp 13) 54 3 (.int .i64 0) 8 rfl Try.underlying54 info3 rfl (by decide) (by decide) (.slice none 0 0) [] xs Ax xs.length cx (fun _ => True) (fun _ => False) rfl rfl (Kd.R_nil _ _ _ _ _) CX.out (fun x cs h => h) (fun _ h => h.elim) (fun _ _ => trivial) (Below.refl _ _) (Nat.le_refl _) (by have h1 := HN.out.2.2; simp; omega) ?_; intro v4 w4 hR hb hg hat; rw [List.nil_append] at hR; have F4 := Lib.hid (And.intro hR hb); obtain ⟨A4, c4, rfl, hc4, -⟩ := Kd.R_reads hR; clear hR hb hg hat hc4)
    | ((with_reducible refine gate_dst (N := 16) rfl ?_); refine Kd.R_append_rows (Kd.int .i64) (Rr := (Kd.int .i64).K (w4.alloc (.cells #[.int .i64 (-91)] 3))) (w0 := W1) W1.heap.size rfl (.tmp 14) (.tmp 15) 54 3 (.int .i64 0) 8 rfl Try.underlying54 info3 rfl (by decide) (by decide) (.slice A4 xs.length c4) xs [-91] (some ⟨w4.heap.size, 0, none⟩) 1 1 (fun _ => True) (fun _ => False) rfl rfl (Kd.R_alloc F4.out.1 _) (one_CI w4 (-91)) (fun x cs h => h) (fun _ h => h.elim) (fun _ _ => trivial) (F4.out.2.alloc F4.out.2.size _) (by have h := F4.out.2.size; simp; omega) (by have h1 := HN.out.2.2; simp; omega) ?_; intro v6 w6 hR hb hg hat; obtain ⟨A6, c6, rfl, hc6, hC6⟩ := Kd.R_reads hR; have C6 := Lib.hid hC6; have H6 := Lib.hid (show xs.length + 1 ≤ c6 by simpa using hc6); replace CA := Lib.hid (Kd.C_below CA.out hb); replace CX := Lib.hid (Kd.C_below CX.out hb); replace CM := Lib.hid (Kd.C_below CM.out hb); replace HB := Lib.hid (below_step HB.out hb); rw [show (xs ++ [(-91 : Int)]).length = xs.length + 1 from by simp]; clear hR hb hg hat hc6 hC6 F4)
    | (fail))
  have n1 := eq_true (show 0 ≤ (xs.length : Int) by omega)
  have n2 := eq_true (show (xs.length : Int) ≤ (c6 : Int) by have := H6.out; omega)
  have n3 := eq_true (show xs.length ≤ c6 by have := H6.out; omega)
  have n4 := eq_true (show xs.length < xs.length + 1 by omega)
  have n5 := eq_true (show (xs.length : Int) < (xs.length : Int) + 1 by omega)
  go_wp2_with (first
    | (go_at_call 36; (with_reducible refine (holds_any _ A' A6 c' c6 l xs (by have h := Kd.C_take CM.out (m := l.length) (by rw [List.length_append]; omega); rw [List.take_left' rfl] at h; exact h) (by have := HM.out; omega) (by have h := Kd.C_take C6.out (m := xs.length) (by rw [List.length_append]; omega); rw [List.take_left' rfl] at h; exact h) (by have := H6.out; omega) HN.out.1 HN.out.2.2.1 HF.out.1 HF.out.2).mono ?_); rintro e_ W7 ⟨h_, hb⟩; rw [hpq.out] at h_; subst h_; replace CA := Lib.hid (Kd.C_below CA.out hb); replace CX := Lib.hid (Kd.C_below CX.out hb); replace CM := Lib.hid (Kd.C_below CM.out hb); replace C6 := Lib.hid (Kd.C_below C6.out hb); replace HB := Lib.hid (below_step HB.out hb); clear hb)
    | (go_at_call 37; (with_reducible refine (rholds_any runR (fun A Ax c cx l xs W h1 h2 h3 h4 h5 h6 h7 => rrun_any W A Ax c cx l xs h1 h2 h3 h4 h5 h6 h7) _ A Ax c cx l xs CA.out HC.out.1 CX.out HC.out.2 HN.out.1 HN.out.2.2.1).mono ?_); rintro e_ W8 ⟨h_, hb⟩; rw [hrq.out] at h_; subst h_; replace CA := Lib.hid (Kd.C_below CA.out hb); replace CX := Lib.hid (Kd.C_below CX.out hb); replace CM := Lib.hid (Kd.C_below CM.out hb); replace C6 := Lib.hid (Kd.C_below C6.out hb); replace HB := Lib.hid (below_step HB.out hb); clear hb)
    | (go_at_call 15; (with_reducible refine (hawserlaw26_num.calls pe pe _ rfl).mono ?_); rintro e_ W9 ⟨rfl, hd⟩; have hb := hd.below; clear hd; replace CA := Lib.hid (Kd.C_below CA.out hb); replace CX := Lib.hid (Kd.C_below CX.out hb); replace CM := Lib.hid (Kd.C_below CM.out hb); replace C6 := Lib.hid (Kd.C_below C6.out hb); replace HB := Lib.hid (below_step HB.out hb); clear hb)
    | (go_at_call 18; have CK2 := CM.out; rw [List.length_append] at CK2; have CK3 : Kd.C k39 _ A' (l.length + 2) (l ++ marks) := CK2; (with_reducible refine (kept _ A' A c' c l CK3 HM.out CA.out HC.out.1 HN.out.1).mono ?_); rintro e_ W10 ⟨rfl, hb⟩; replace CA := Lib.hid (Kd.C_below CA.out hb); replace CX := Lib.hid (Kd.C_below CX.out hb); replace CM := Lib.hid (Kd.C_below CM.out hb); replace C6 := Lib.hid (Kd.C_below C6.out hb); replace HB := Lib.hid (below_step HB.out hb); clear hb CK2 CK3)
    | (go_at_call 31; (with_reducible refine (sint_any _ A6 Ax c6 cx xs (by have h := Kd.C_take C6.out (m := xs.length) (by rw [List.length_append]; omega); rw [List.take_left' rfl] at h; exact h) CX.out HN.out.2.2.1).mono ?_); rintro e_ W11 ⟨rfl, hb⟩; replace CA := Lib.hid (Kd.C_below CA.out hb); replace CX := Lib.hid (Kd.C_below CX.out hb); replace CM := Lib.hid (Kd.C_below CM.out hb); replace C6 := Lib.hid (Kd.C_below C6.out hb); obtain ⟨ad6, e6, k6⟩ := int_at C6.out (xs.length : Int) (by omega) (by rw [List.length_append]; show (xs.length : Int) < ((xs.length + 1 : Nat) : Int); omega); cases e6; rw [ix_last, Int.toNat_natCast] at k6; replace HB := Lib.hid (below_step HB.out hb); clear hb)
    | (go_at_call 32; (with_reducible refine (awake_any _).mono ?_); rintro e_ W12 ⟨rfl, hb⟩; replace HB := Lib.hid (below_step HB.out hb); clear hb)
    | (fail))
  go_ret
  exact ⟨by first | rfl | simp, HB.out⟩
end Go.Proofs.Ytbakmkoppieelaa.PLinearChecks

/- What is proved: hawserref26.Check of any calls, and its plain words; the condition stands in its theorem. -/
import Derived.Test.YtbakmkoppieelaaLSlQ
import Derived.Lib.Hide
namespace Go.Proofs.Ytbakmkoppieelaa.PLinearChecks
open Go.RowKit Go.Proofs.YtbakmkoppieelaaW.PrintWords Go.Proofs.YtbakmkoppieelaaW.PrintLast Go.Proofs.YtbakmkoppieelaaW.PrintMore
set_option linter.unusedVariables false
set_option linter.unusedSimpArgs false
theorem may_ax (a0_0 : Int) (a0_1 : Int) (a0_2 : Bool) (a0_3 : ByteArray) (a0_4 : Int) (a0_5 : ByteArray) (a0_6 : ByteArray) (a0_7 : Int) (a0_8 : Int) (a0_9 : Int) (a0_10 : Int) (a0_11 : Int) (a0_12 : ByteArray) (a0_13 : ByteArray) (a0_14 : Int) (a0_15 : Bool) (b : Bool) (hb : mayB16 a0_0 a0_1 a0_2 a0_3 a0_4 a0_5 a0_6 a0_7 a0_8 a0_9 a0_10 a0_11 a0_12 a0_13 a0_14 a0_15 = b) (w : World) : Calls Try.prog 43 #[.agg #[.int .i64 a0_0, .int .i64 a0_1, .bool a0_2, .string a0_3, .int .i64 a0_4, .string a0_5, .string a0_6, .int .i64 a0_7, .int .i64 a0_8, .int .i64 a0_9, .int .i64 a0_10, .int .i64 a0_11, .string a0_12, .string a0_13, .int .i64 a0_14, .bool a0_15]] w fun e w' => e = .returned (.bool b) ∧ Below w.heap.size w w' := hb ▸ may_any a0_0 a0_1 a0_2 a0_3 a0_4 a0_5 a0_6 a0_7 a0_8 a0_9 a0_10 a0_11 a0_12 a0_13 a0_14 a0_15 w
def ar (n k : Nat) : Array Bool := (List.replicate k true ++ List.replicate (n - k) false).toArray
def mayB (c : S39) : Bool := mayB16 c.f0 c.f1 c.f2 c.f3 c.f4.f0 c.f4.f1 c.f4.f2 c.f4.f3 c.f5 c.f6 c.f7.f0 c.f7.f1 c.f8.f0 c.f8.f1 c.f8.f2 c.f9
def ansB (c : S39) : Bool := c.f6 != -1
def bad1 (l : List S39) (i : Int) : Bool := !mayB (rd_T39 l i) || (decide (i > 0) && decide ((rd_T39 l i).f5 ≤ (rd_T39 l (i - 1)).f5))
def bad2 (l : List S39) (i k : Int) : Bool := (k != i && ansB (rd_T39 l i)) && ((rd_T39 l i).f6 == (rd_T39 l k).f5 || (rd_T39 l i).f6 == (rd_T39 l k).f6)
def bad3 (l : List S39) (i k : Int) : Bool := (decide (k < i) && (rd_T39 l k).f0 == (rd_T39 l i).f0) && ((!ansB (rd_T39 l k) || decide ((rd_T39 l k).f6 ≥ (rd_T39 l i).f5)) || decide ((rd_T39 l k).f1 ≥ (rd_T39 l i).f1))
def okIn (l : List S39) (i k0 : Int) : Prop := ∀ k, 0 ≤ k → k < k0 → bad2 l i k = false ∧ bad3 l i k = false
def okTo (l : List S39) (i0 : Int) : Prop := ∀ i, 0 ≤ i → i < i0 → bad1 l i = false ∧ okIn l i l.length
open Classical in
noncomputable def refF (l : List S39) : Int := if okTo l l.length then 0 else 260
theorem refF_ok {l : List S39} (h : okTo l l.length) : refF l = 0 := if_pos h
theorem refF_bad {l : List S39} (i : Int) (h0 : 0 ≤ i) (h1 : i < l.length) (h : ¬ (bad1 l i = false ∧ okIn l i l.length)) : refF l = 260 := if_neg (fun hh => h (hh i h0 h1))
theorem okTo_succ {l : List S39} {i : Int} (h : okTo l i) (h1 : bad1 l i = false) (h2 : okIn l i l.length) : okTo l (i + 1) := by
  intro j j0 j1
  by_cases e : j = i
  · subst e; exact ⟨h1, h2⟩
  · exact h j j0 (by omega)
theorem okIn_succ {l : List S39} {i k : Int} (h : okIn l i k) (h1 : bad2 l i k = false) (h2 : bad3 l i k = false) : okIn l i (k + 1) := by
  intro j j0 j1
  by_cases e : j = k
  · subst e; exact ⟨h1, h2⟩
  · exact h j j0 (by omega)
def rchk.T4 : Bool × List (List Nat × List Nat) := (true, [([], []), ([], []), ([0, 1], [0, 1]), ([2], [2]), ([3], [3]), ([4], [4]), ([5, 4], [5]), ([6], [6]), ([7, 6], [6, 7]), ([8, 6, 6], [6, 8]), ([9], [9]), ([9], [9]), ([10, 11, 9], [9, 10, 11]), ([12, 9], [9, 12]), ([13, 9], [9, 13]), ([9], [9]), ([9], [9]), ([16, 9], [9, 16]), ([15, 17, 9], [9, 15, 17]), ([18, 9], [9, 18]), ([19, 9], [9, 19]), ([14, 20, 9], [9, 14, 20]), ([9, 21, 6], [6, 9, 21]), ([6, 22], [6, 22])])
def rchk.B4 : List Nat := [0, 0, 3, 7, 15, 31, 63, 127, 255, 511, 1023, 1023, 4095, 8191, 16383, 1023, 1023, 66559, 230399, 492543, 1016831, 2097151, 4194303, 8388607]
theorem rchk.tab4 : rtab .any (opsOf Try.f17 4) = rchk.T4 := by kernel_rfl
theorem rchk.bits4 : waitsOk rchk.T4.2 rchk.B4 = true := by kernel_rfl
def rchk.T9 : Bool × List (List Nat × List Nat) := (true, [([], []), ([], []), ([0, 1], [0, 1]), ([2], [2]), ([3], [3]), ([3], [3]), ([4, 5, 3], [3, 4, 5]), ([6, 3], [3, 6]), ([7, 3, 3], [3, 7]), ([3, 8], [3, 8]), ([9, 8], [9]), ([10], [10]), ([10], [10]), ([11, 12, 10], [10, 11, 12]), ([13, 10], [10, 13]), ([14, 10], [10, 14]), ([10], [10]), ([10], [10]), ([16, 17, 10], [10, 16, 17]), ([18, 10], [10, 18]), ([19, 10], [10, 19]), ([15, 20, 10], [10, 15, 20]), ([21, 10, 10], [10, 21]), ([22], [22]), ([22], [22]), ([23, 24, 22], [22, 23, 24]), ([25, 22], [22, 25]), ([26, 22], [22, 26]), ([22], [22]), ([22], [22]), ([28, 29, 22], [22, 28, 29]), ([30, 22], [22, 30]), ([31, 22], [22, 31]), ([27, 32, 22], [22, 27, 32]), ([22, 33, 10], [10, 22, 33]), ([10, 34], [10, 34])])
def rchk.B9 : List Nat := [0, 0, 3, 7, 15, 15, 63, 127, 255, 511, 1023, 2047, 2047, 8191, 16383, 32767, 2047, 2047, 198655, 460799, 985087, 2097151, 4194303, 8388607, 8388607, 33554431, 67108863, 134217727, 8388607, 8388607, 813694975, 1887436799, 4034920447, 8589934591, 17179869183, 34359738367]
theorem rchk.tab9 : rtab .any (opsOf Try.f17 9) = rchk.T9 := by kernel_rfl
theorem rchk.bits9 : waitsOk rchk.T9.2 rchk.B9 = true := by kernel_rfl
def rchk.T11 : Bool × List (List Nat × List Nat) := (true, [([], []), ([], []), ([0, 1], [0, 1]), ([2], [2]), ([3], [3]), ([3], [3]), ([4, 5, 3], [3, 4, 5]), ([6, 3], [3, 6]), ([7, 3], [3, 7]), ([3], [3]), ([3], [3]), ([9, 10, 3], [3, 9, 10]), ([11, 3], [3, 11]), ([12, 3], [3, 12]), ([8, 13, 3], [3, 8, 13]), ([3, 14], [3, 14]), ([15, 3], [15]), ([16], [16]), ([16], [16]), ([17, 18, 16], [16, 17, 18]), ([19, 16], [16, 19]), ([20, 16, 16], [16, 20]), ([21, 16], [16, 21]), ([22, 21, 16], [16, 22]), ([23], [23]), ([23], [23]), ([24, 25, 23], [23, 24, 25]), ([26, 23], [23, 26]), ([27, 23], [23, 27]), ([23], [23]), ([23], [23]), ([29, 30, 23], [23, 29, 30]), ([31, 23], [23, 31]), ([32, 23], [23, 32]), ([28, 33, 23], [23, 28, 33]), ([23, 34, 16], [16, 23, 34]), ([35, 23, 16], [16, 35]), ([36], [36]), ([36], [36]), ([37, 38, 36], [36, 37, 38]), ([39, 36], [36, 39]), ([40, 36], [36, 40]), ([36], [36]), ([36], [36]), ([42, 43, 36], [36, 42, 43]), ([44, 36], [36, 44]), ([45, 36], [36, 45]), ([41, 46, 36], [36, 41, 46]), ([36, 47, 16], [16, 36, 47]), ([16, 48], [16, 48])])
def rchk.B11 : List Nat := [0, 0, 3, 7, 15, 15, 63, 127, 255, 15, 15, 1551, 3599, 7695, 16383, 32767, 65535, 131071, 131071, 524287, 1048575, 2097151, 4194303, 8388607, 16777215, 16777215, 67108863, 134217727, 268435455, 16777215, 16777215, 1627389951, 3774873599, 8069840895, 17179869183, 34359738367, 68719476735, 137438953471, 137438953471, 549755813887, 1099511627775, 2199023255551, 137438953471, 137438953471, 13331578486783, 30923764531199, 66108136620031, 140737488355327, 281474976710655, 562949953421311]
theorem rchk.tab11 : rtab .any (opsOf Try.f17 11) = rchk.T11 := by kernel_rfl
theorem rchk.bits11 : waitsOk rchk.T11.2 rchk.B11 = true := by kernel_rfl
set_option maxHeartbeats 64000000 in
set_option maxRecDepth 100000 in
theorem rcheck_any (w : World) (A : Option Addr) (c : Nat) (l : List S39) (hr : Kd.C k39 w A l.length l) (hc : l.length ≤ c) (hn : l.length ≤ 140737488351232) :
    Calls Try.prog 17 #[.slice A l.length c] w fun e w' => e = .returned (.int .i64 (refF l)) ∧ Below w.heap.size w w' := by
  have hu39 := Try.underlying39
  have HR := Lib.hid hr
  clear hr
  go_enter Try.func17, Try.ntmps17
  go_wp2
  go_loopw [3] (fun v3 wr => ∃ i : Int, v3 = .int .i64 i ∧ (0 ≤ i ∧ i ≤ (l.length : Int) ∧ RowKit.Hid (okTo l i)) ∧ RowKit.Hid (Below w.heap.size w wr)) (fun v3 _ => ((l.length : Int) - intOf v3).toNat)
  case atStart => exact ⟨0, rfl, ⟨by omega, by omega, Lib.hid (fun i h0 h1 => by omega)⟩, Lib.hid (Below.refl _ _)⟩
  case round =>
    obtain ⟨i, rfl, ⟨i0, i1, HO⟩, HB⟩ := hrel
    by_cases hlt : i < (l.length : Int)
    · have c1 : decide (i < (l.length : Int)) = true := decide_eq_true hlt
      go_upto_region 4 with (fail)
      go_cut [34] (fun v34 wc => ∃ b : Bool, v34 = .bool b ∧ RowKit.Hid (bad1 l i = b) ∧ RowKit.Hid (Below w.heap.size w wc))
      case first =>
        cases hm : mayB (rd_T39 l i) with
        | false =>
          have HM := Lib.hid (fun W => may_ax (rd_T39 l i).f0 (rd_T39 l i).f1 (rd_T39 l i).f2 (rd_T39 l i).f3 (rd_T39 l i).f4.f0 (rd_T39 l i).f4.f1 (rd_T39 l i).f4.f2 (rd_T39 l i).f4.f3 (rd_T39 l i).f5 (rd_T39 l i).f6 (rd_T39 l i).f7.f0 (rd_T39 l i).f7.f1 (rd_T39 l i).f8.f0 (rd_T39 l i).f8.f1 (rd_T39 l i).f8.f2 (rd_T39 l i).f9 false hm W)
          have hbad : bad1 l i = true := by simp [bad1, hm]
          have HBAD := Lib.hid hbad
          clear hbad hm
          have PI := Lib.hid (show 0 ≤ i ∧ i < (l.length : Int) by omega)
          have pI := eq_true PI.out.1
          have qI := eq_true PI.out.2
          clear i0 i1 hlt
          as_aux_lemma =>
            obtain ⟨ad, eA, -⟩ := at_T39 HR.out i PI.out.1 PI.out.2
            cases eA
            refine start_ (n := 24) (S := fun w1 => Below w.heap.size w w1) (ds := []) (ar 24 0) (by kernel_rfl) rfl rfl (below_drew1 HB.out) (fun hHeld => ?_); refine with_tabW rchk.tab4 rchk.bits4 (fun HT_ HW_ => ?_)
            replace HB := Lib.hid (below_drew1 HB.out)
            generalize wr.drew = wz at HB hHeld ⊢
            refine pY 0 (some 11) (ar 24 1) HT_ (h := ?_)
            refine pY 1 (some 12) (ar 24 2) HT_ (h := ?_)
            refine pY 2 (some 13) (ar 24 3) HT_ (h := ?_)
            refine take_ (i := 3) (N := (some 14)) (v := ?_) (a' := ?_) (ar 24 4) rfl rfl (take_ofW HT_.out HW_.out (by kernel_rfl)) (fun _ _ _ h => h) (Or.inl ⟨by rfl, ?_⟩) hHeld ?_ ?_; rotate_left; (· rintro w1 hs1; obtain ⟨adI, eI, xI_0, xI_1, xI_2, xI_3, xI_4, xI_5, xI_6, xI_7, xI_8, xI_9, xI_10, xI_11, xI_12, xI_13, xI_14, xI_15⟩ := at_T39 (Kd.C_below HR.out hs1) i PI.out.1 PI.out.2; obtain rfl : ad = adI := (by injection eI); clear hs1; go_simp; with_reducible rfl); rotate_left; (· simp only [Act.put, List.setIfInBounds_toArray, List.set_cons_zero, List.set_cons_succ, i64_w, i32_w]; rfl)
            refine one_ (i := 4) (N := (some 15)) (ar 24 5) rfl rfl (one_of HT_.out (by kernel_rfl)) (by decide) (fun K hK => ?_); refine goes_ Try.func43 (by kernel_rfl) rfl #[.agg #[.int .i64 (rd_T39 l i).f0, .int .i64 (rd_T39 l i).f1, .bool (rd_T39 l i).f2, .string (rd_T39 l i).f3, .int .i64 (rd_T39 l i).f4.f0, .string (rd_T39 l i).f4.f1, .string (rd_T39 l i).f4.f2, .int .i64 (rd_T39 l i).f4.f3, .int .i64 (rd_T39 l i).f5, .int .i64 (rd_T39 l i).f6, .int .i64 (rd_T39 l i).f7.f0, .int .i64 (rd_T39 l i).f7.f1, .string (rd_T39 l i).f8.f0, .string (rd_T39 l i).f8.f1, .int .i64 (rd_T39 l i).f8.f2, .bool (rd_T39 l i).f9]] (by rfl) rfl rfl (by (try simp only [List.map_toArray, List.map_cons, List.map_nil]); first | done | rfl) ?_; with_reducible refine (HM.out _).mono ?_; rintro e w12 ⟨rfl, hb⟩; refine ⟨_, rfl, ?_⟩; replace HB := Lib.hid (below_step HB.out hb); clear hb; refine hK.out _ _ HB.out (fun hHeld => ?_); clear hK K; refine norm_ (a' := ?_) ?_ ?_; rotate_left; (· show Act.put _ (some 15) _ = _; simp only [Act.put, List.setIfInBounds_toArray, List.set_cons_zero, List.set_cons_succ, i64_w, i32_w]; rfl)
            refine pY 5 (some 16) (ar 24 6) HT_ (h := ?_)
            refine pY 6 (some 17) (ar 24 7) HT_ (h := ?_)
            refine sY 7 (some 18) (ar 24 8) HT_ (h := ?_)
            refine sY 8 (some 19) (ar 24 9) HT_ (h := ?_)
            refine sY 9 (some 20) (ar 24 10) HT_ (h := ?_)
            refine sY 10 (some 21) (ar 24 11) HT_ (h := ?_)
            refine sY 11 (some 22) (ar 24 12) HT_ (h := ?_)
            refine sY 12 (some 23) (ar 24 13) HT_ (h := ?_)
            refine sY 13 (some 24) (ar 24 14) HT_ (h := ?_)
            refine sY 14 (some 25) (ar 24 15) HT_ (h := ?_)
            refine sY 15 (some 26) (ar 24 16) HT_ (h := ?_)
            refine sY 16 (some 27) (ar 24 17) HT_ (h := ?_)
            refine sY 17 (some 28) (ar 24 18) HT_ (h := ?_)
            refine sY 18 (some 29) (ar 24 19) HT_ (h := ?_)
            refine sY 19 (some 30) (ar 24 20) HT_ (h := ?_)
            refine sY 20 (some 31) (ar 24 21) HT_ (h := ?_)
            refine sY 21 (some 32) (ar 24 22) HT_ (h := ?_)
            refine sY 22 (some 33) (ar 24 23) HT_ (h := ?_)
            refine pY 23 (some 34) (ar 24 24) HT_ (h := ?_)
            refine done_ (done_of HT_.out (by kernel_rfl)) ?_
            try go_wp2
            go_meet
            case rel => exact ⟨_, rfl, HBAD, HB⟩
        | true =>
          by_cases hi : i > 0
          · have HM := Lib.hid (fun W => may_ax (rd_T39 l i).f0 (rd_T39 l i).f1 (rd_T39 l i).f2 (rd_T39 l i).f3 (rd_T39 l i).f4.f0 (rd_T39 l i).f4.f1 (rd_T39 l i).f4.f2 (rd_T39 l i).f4.f3 (rd_T39 l i).f5 (rd_T39 l i).f6 (rd_T39 l i).f7.f0 (rd_T39 l i).f7.f1 (rd_T39 l i).f8.f0 (rd_T39 l i).f8.f1 (rd_T39 l i).f8.f2 (rd_T39 l i).f9 true hm W)
            have hbad : bad1 l i = decide ((rd_T39 l i).f5 ≤ (rd_T39 l (i - 1)).f5) := by simp [bad1, hm, hi]
            have HBAD := Lib.hid hbad
            clear hbad hm
            have hi2 : decide (0 < i) = true := decide_eq_true hi
            obtain ⟨j, hj⟩ : ∃ j : Int, i - 1 = j := ⟨_, rfl⟩
            have hjw : IntKind.i64.wrap (i - 1) = j := by rw [i64_w, ← hj]; unfold wrap64; omega
            have PI := Lib.hid (show 0 ≤ i ∧ i < (l.length : Int) by omega)
            have pI := eq_true PI.out.1
            have qI := eq_true PI.out.2
            have PJ := Lib.hid (show 0 ≤ j ∧ j < (l.length : Int) by omega)
            have pJ := eq_true PJ.out.1
            have qJ := eq_true PJ.out.2
            rw [hj] at HBAD
            clear hj i0 i1 hlt hi
            as_aux_lemma =>
              obtain ⟨ad, eA, -⟩ := at_T39 HR.out i PI.out.1 PI.out.2
              cases eA
              refine start_ (n := 24) (S := fun w1 => Below w.heap.size w w1) (ds := []) (ar 24 0) (by kernel_rfl) rfl rfl (below_drew1 HB.out) (fun hHeld => ?_); refine with_tabW rchk.tab4 rchk.bits4 (fun HT_ HW_ => ?_)
              replace HB := Lib.hid (below_drew1 HB.out)
              generalize wr.drew = wz at HB hHeld ⊢
              refine pY 0 (some 11) (ar 24 1) HT_ (h := ?_)
              refine pY 1 (some 12) (ar 24 2) HT_ (h := ?_)
              refine pY 2 (some 13) (ar 24 3) HT_ (h := ?_)
              refine take_ (i := 3) (N := (some 14)) (v := ?_) (a' := ?_) (ar 24 4) rfl rfl (take_ofW HT_.out HW_.out (by kernel_rfl)) (fun _ _ _ h => h) (Or.inl ⟨by rfl, ?_⟩) hHeld ?_ ?_; rotate_left; (· rintro w1 hs1; obtain ⟨adI, eI, xI_0, xI_1, xI_2, xI_3, xI_4, xI_5, xI_6, xI_7, xI_8, xI_9, xI_10, xI_11, xI_12, xI_13, xI_14, xI_15⟩ := at_T39 (Kd.C_below HR.out hs1) i PI.out.1 PI.out.2; obtain ⟨adJ, eJ, xJ_0, xJ_1, xJ_2, xJ_3, xJ_4, xJ_5, xJ_6, xJ_7, xJ_8, xJ_9, xJ_10, xJ_11, xJ_12, xJ_13, xJ_14, xJ_15⟩ := at_T39 (Kd.C_below HR.out hs1) j PJ.out.1 PJ.out.2; obtain rfl : ad = adI := (by injection eI); obtain rfl : ad = adJ := (by injection eJ); clear hs1; go_simp; with_reducible rfl); rotate_left; (· simp only [Act.put, List.setIfInBounds_toArray, List.set_cons_zero, List.set_cons_succ, i64_w, i32_w]; rfl)
              refine one_ (i := 4) (N := (some 15)) (ar 24 5) rfl rfl (one_of HT_.out (by kernel_rfl)) (by decide) (fun K hK => ?_); refine goes_ Try.func43 (by kernel_rfl) rfl #[.agg #[.int .i64 (rd_T39 l i).f0, .int .i64 (rd_T39 l i).f1, .bool (rd_T39 l i).f2, .string (rd_T39 l i).f3, .int .i64 (rd_T39 l i).f4.f0, .string (rd_T39 l i).f4.f1, .string (rd_T39 l i).f4.f2, .int .i64 (rd_T39 l i).f4.f3, .int .i64 (rd_T39 l i).f5, .int .i64 (rd_T39 l i).f6, .int .i64 (rd_T39 l i).f7.f0, .int .i64 (rd_T39 l i).f7.f1, .string (rd_T39 l i).f8.f0, .string (rd_T39 l i).f8.f1, .int .i64 (rd_T39 l i).f8.f2, .bool (rd_T39 l i).f9]] (by rfl) rfl rfl (by (try simp only [List.map_toArray, List.map_cons, List.map_nil]); first | done | rfl) ?_; with_reducible refine (HM.out _).mono ?_; rintro e w12 ⟨rfl, hb⟩; refine ⟨_, rfl, ?_⟩; replace HB := Lib.hid (below_step HB.out hb); clear hb; refine hK.out _ _ HB.out (fun hHeld => ?_); clear hK K; refine norm_ (a' := ?_) ?_ ?_; rotate_left; (· show Act.put _ (some 15) _ = _; simp only [Act.put, List.setIfInBounds_toArray, List.set_cons_zero, List.set_cons_succ, i64_w, i32_w]; rfl)
              refine pY 5 (some 16) (ar 24 6) HT_ (h := ?_)
              refine pY 6 (some 17) (ar 24 7) HT_ (h := ?_)
              refine pY 7 (some 18) (ar 24 8) HT_ (h := ?_)
              refine pY 8 (some 19) (ar 24 9) HT_ (h := ?_)
              refine pY 9 (some 20) (ar 24 10) HT_ (h := ?_)
              refine pY 10 (some 21) (ar 24 11) HT_ (h := ?_)
              refine pY 11 (some 22) (ar 24 12) HT_ (h := ?_)
              refine pY 12 (some 23) (ar 24 13) HT_ (h := ?_)
              refine pY 13 (some 24) (ar 24 14) HT_ (h := ?_)
              refine take_ (i := 14) (N := (some 25)) (v := ?_) (a' := ?_) (ar 24 15) rfl rfl (take_ofW HT_.out HW_.out (by kernel_rfl)) (fun _ _ _ h => h) (Or.inl ⟨by rfl, ?_⟩) hHeld ?_ ?_; rotate_left; (· rintro w1 hs1; obtain ⟨adI, eI, xI_0, xI_1, xI_2, xI_3, xI_4, xI_5, xI_6, xI_7, xI_8, xI_9, xI_10, xI_11, xI_12, xI_13, xI_14, xI_15⟩ := at_T39 (Kd.C_below HR.out hs1) i PI.out.1 PI.out.2; obtain ⟨adJ, eJ, xJ_0, xJ_1, xJ_2, xJ_3, xJ_4, xJ_5, xJ_6, xJ_7, xJ_8, xJ_9, xJ_10, xJ_11, xJ_12, xJ_13, xJ_14, xJ_15⟩ := at_T39 (Kd.C_below HR.out hs1) j PJ.out.1 PJ.out.2; obtain rfl : ad = adI := (by injection eI); obtain rfl : ad = adJ := (by injection eJ); clear hs1; go_simp; with_reducible rfl); rotate_left; (· simp only [Act.put, List.setIfInBounds_toArray, List.set_cons_zero, List.set_cons_succ, i64_w, i32_w]; rfl)
              refine pY 15 (some 26) (ar 24 16) HT_ (h := ?_)
              refine pY 16 (some 27) (ar 24 17) HT_ (h := ?_)
              refine pY 17 (some 28) (ar 24 18) HT_ (h := ?_)
              refine pY 18 (some 29) (ar 24 19) HT_ (h := ?_)
              refine pY 19 (some 30) (ar 24 20) HT_ (h := ?_)
              refine take_ (i := 20) (N := (some 31)) (v := ?_) (a' := ?_) (ar 24 21) rfl rfl (take_ofW HT_.out HW_.out (by kernel_rfl)) (fun _ _ _ h => h) (Or.inl ⟨by rfl, ?_⟩) hHeld ?_ ?_; rotate_left; (· rintro w1 hs1; obtain ⟨adI, eI, xI_0, xI_1, xI_2, xI_3, xI_4, xI_5, xI_6, xI_7, xI_8, xI_9, xI_10, xI_11, xI_12, xI_13, xI_14, xI_15⟩ := at_T39 (Kd.C_below HR.out hs1) i PI.out.1 PI.out.2; obtain ⟨adJ, eJ, xJ_0, xJ_1, xJ_2, xJ_3, xJ_4, xJ_5, xJ_6, xJ_7, xJ_8, xJ_9, xJ_10, xJ_11, xJ_12, xJ_13, xJ_14, xJ_15⟩ := at_T39 (Kd.C_below HR.out hs1) j PJ.out.1 PJ.out.2; obtain rfl : ad = adI := (by injection eI); obtain rfl : ad = adJ := (by injection eJ); clear hs1; go_simp; with_reducible rfl); rotate_left; (· simp only [Act.put, List.setIfInBounds_toArray, List.set_cons_zero, List.set_cons_succ, i64_w, i32_w]; rfl)
              refine pY 21 (some 32) (ar 24 22) HT_ (h := ?_)
              refine pY 22 (some 33) (ar 24 23) HT_ (h := ?_)
              refine pY 23 (some 34) (ar 24 24) HT_ (h := ?_)
              refine done_ (done_of HT_.out (by kernel_rfl)) ?_
              try go_wp2
              go_meet
              case rel => exact ⟨_, rfl, HBAD, HB⟩
          · have HM := Lib.hid (fun W => may_ax (rd_T39 l i).f0 (rd_T39 l i).f1 (rd_T39 l i).f2 (rd_T39 l i).f3 (rd_T39 l i).f4.f0 (rd_T39 l i).f4.f1 (rd_T39 l i).f4.f2 (rd_T39 l i).f4.f3 (rd_T39 l i).f5 (rd_T39 l i).f6 (rd_T39 l i).f7.f0 (rd_T39 l i).f7.f1 (rd_T39 l i).f8.f0 (rd_T39 l i).f8.f1 (rd_T39 l i).f8.f2 (rd_T39 l i).f9 true hm W)
            have hbad : bad1 l i = false := by simp [bad1, hm, hi]
            have HBAD := Lib.hid hbad
            clear hbad hm
            have hi2 : decide (0 < i) = false := decide_eq_false hi
            have PI := Lib.hid (show 0 ≤ i ∧ i < (l.length : Int) by omega)
            have pI := eq_true PI.out.1
            have qI := eq_true PI.out.2
            clear i0 i1 hlt hi
            as_aux_lemma =>
              obtain ⟨ad, eA, -⟩ := at_T39 HR.out i PI.out.1 PI.out.2
              cases eA
              refine start_ (n := 24) (S := fun w1 => Below w.heap.size w w1) (ds := []) (ar 24 0) (by kernel_rfl) rfl rfl (below_drew1 HB.out) (fun hHeld => ?_); refine with_tabW rchk.tab4 rchk.bits4 (fun HT_ HW_ => ?_)
              replace HB := Lib.hid (below_drew1 HB.out)
              generalize wr.drew = wz at HB hHeld ⊢
              refine pY 0 (some 11) (ar 24 1) HT_ (h := ?_)
              refine pY 1 (some 12) (ar 24 2) HT_ (h := ?_)
              refine pY 2 (some 13) (ar 24 3) HT_ (h := ?_)
              refine take_ (i := 3) (N := (some 14)) (v := ?_) (a' := ?_) (ar 24 4) rfl rfl (take_ofW HT_.out HW_.out (by kernel_rfl)) (fun _ _ _ h => h) (Or.inl ⟨by rfl, ?_⟩) hHeld ?_ ?_; rotate_left; (· rintro w1 hs1; obtain ⟨adI, eI, xI_0, xI_1, xI_2, xI_3, xI_4, xI_5, xI_6, xI_7, xI_8, xI_9, xI_10, xI_11, xI_12, xI_13, xI_14, xI_15⟩ := at_T39 (Kd.C_below HR.out hs1) i PI.out.1 PI.out.2; obtain rfl : ad = adI := (by injection eI); clear hs1; go_simp; with_reducible rfl); rotate_left; (· simp only [Act.put, List.setIfInBounds_toArray, List.set_cons_zero, List.set_cons_succ, i64_w, i32_w]; rfl)
              refine one_ (i := 4) (N := (some 15)) (ar 24 5) rfl rfl (one_of HT_.out (by kernel_rfl)) (by decide) (fun K hK => ?_); refine goes_ Try.func43 (by kernel_rfl) rfl #[.agg #[.int .i64 (rd_T39 l i).f0, .int .i64 (rd_T39 l i).f1, .bool (rd_T39 l i).f2, .string (rd_T39 l i).f3, .int .i64 (rd_T39 l i).f4.f0, .string (rd_T39 l i).f4.f1, .string (rd_T39 l i).f4.f2, .int .i64 (rd_T39 l i).f4.f3, .int .i64 (rd_T39 l i).f5, .int .i64 (rd_T39 l i).f6, .int .i64 (rd_T39 l i).f7.f0, .int .i64 (rd_T39 l i).f7.f1, .string (rd_T39 l i).f8.f0, .string (rd_T39 l i).f8.f1, .int .i64 (rd_T39 l i).f8.f2, .bool (rd_T39 l i).f9]] (by rfl) rfl rfl (by (try simp only [List.map_toArray, List.map_cons, List.map_nil]); first | done | rfl) ?_; with_reducible refine (HM.out _).mono ?_; rintro e w12 ⟨rfl, hb⟩; refine ⟨_, rfl, ?_⟩; replace HB := Lib.hid (below_step HB.out hb); clear hb; refine hK.out _ _ HB.out (fun hHeld => ?_); clear hK K; refine norm_ (a' := ?_) ?_ ?_; rotate_left; (· show Act.put _ (some 15) _ = _; simp only [Act.put, List.setIfInBounds_toArray, List.set_cons_zero, List.set_cons_succ, i64_w, i32_w]; rfl)
              refine pY 5 (some 16) (ar 24 6) HT_ (h := ?_)
              refine pY 6 (some 17) (ar 24 7) HT_ (h := ?_)
              refine pY 7 (some 18) (ar 24 8) HT_ (h := ?_)
              refine pY 8 (some 19) (ar 24 9) HT_ (h := ?_)
              refine pY 9 (some 20) (ar 24 10) HT_ (h := ?_)
              refine sY 10 (some 21) (ar 24 11) HT_ (h := ?_)
              refine sY 11 (some 22) (ar 24 12) HT_ (h := ?_)
              refine sY 12 (some 23) (ar 24 13) HT_ (h := ?_)
              refine sY 13 (some 24) (ar 24 14) HT_ (h := ?_)
              refine sY 14 (some 25) (ar 24 15) HT_ (h := ?_)
              refine sY 15 (some 26) (ar 24 16) HT_ (h := ?_)
              refine sY 16 (some 27) (ar 24 17) HT_ (h := ?_)
              refine sY 17 (some 28) (ar 24 18) HT_ (h := ?_)
              refine sY 18 (some 29) (ar 24 19) HT_ (h := ?_)
              refine sY 19 (some 30) (ar 24 20) HT_ (h := ?_)
              refine sY 20 (some 31) (ar 24 21) HT_ (h := ?_)
              refine sY 21 (some 32) (ar 24 22) HT_ (h := ?_)
              refine pY 22 (some 33) (ar 24 23) HT_ (h := ?_)
              refine pY 23 (some 34) (ar 24 24) HT_ (h := ?_)
              refine done_ (done_of HT_.out (by kernel_rfl)) ?_
              try go_wp2
              go_meet
              case rel => exact ⟨_, rfl, HBAD, HB⟩
      case rest =>
        obtain ⟨b, rfl, H1, HB2⟩ := hcut
        clear HB
        cases b with
        | true =>
          have HX := Lib.hid (refF_bad i i0 hlt (fun h => by have h3 := h.1; rw [H1.out] at h3; exact absurd h3 (by decide)))
          go_wp2
          go_ret
          exact ⟨ret_i HX.out.symm, HB2.out⟩
        | false =>
          go_wp2
          go_loopw [4] (fun v4 wr => ∃ k : Int, v4 = .int .i64 k ∧ (0 ≤ k ∧ k ≤ (l.length : Int) ∧ RowKit.Hid (okIn l i k)) ∧ RowKit.Hid (Below w.heap.size w wr)) (fun v4 _ => ((l.length : Int) - intOf v4).toNat)
          case atStart => exact ⟨0, rfl, ⟨by omega, by omega, Lib.hid (fun i h0 h1 => by omega)⟩, HB2⟩
          case round =>
            clear HB2
            obtain ⟨k, rfl, ⟨k0, hk, HI⟩, HB⟩ := hrel
            by_cases hkn : k < (l.length : Int)
            · have c2 : decide (k < (l.length : Int)) = true := decide_eq_true hkn
              go_upto_region 9 with (fail)
              go_cut [76] (fun v76 wc => ∃ b : Bool, v76 = .bool b ∧ RowKit.Hid (bad2 l i k = b) ∧ RowKit.Hid (Below w.heap.size w wc))
              case first =>
                by_cases hki : k = i
                · subst hki
                  have hbad : bad2 l k k = false := by simp [bad2]
                  have HBAD := Lib.hid hbad
                  clear hbad
                  clear i0 i1 hlt k0 hk hkn
                  as_aux_lemma =>
                    refine start_ (n := 36) (S := fun w1 => Below w.heap.size w w1) (ds := []) (ar 36 0) (by kernel_rfl) rfl rfl (below_drew1 HB.out) (fun hHeld => ?_); refine with_tabW rchk.tab9 rchk.bits9 (fun HT_ HW_ => ?_)
                    replace HB := Lib.hid (below_drew1 HB.out)
                    generalize wr.drew = wz at HB hHeld ⊢
                    refine pY 0 (some 41) (ar 36 1) HT_ (h := ?_)
                    refine pY 1 (some 42) (ar 36 2) HT_ (h := ?_)
                    refine pY 2 (some 43) (ar 36 3) HT_ (h := ?_)
                    refine pY 3 (some 44) (ar 36 4) HT_ (h := ?_)
                    refine sY 4 (some 45) (ar 36 5) HT_ (h := ?_)
                    refine sY 5 (some 46) (ar 36 6) HT_ (h := ?_)
                    refine sY 6 (some 47) (ar 36 7) HT_ (h := ?_)
                    refine sY 7 (some 48) (ar 36 8) HT_ (h := ?_)
                    refine sY 8 (some 49) (ar 36 9) HT_ (h := ?_)
                    refine pY 9 (some 50) (ar 36 10) HT_ (h := ?_)
                    refine pY 10 (some 51) (ar 36 11) HT_ (h := ?_)
                    refine sY 11 (some 52) (ar 36 12) HT_ (h := ?_)
                    refine sY 12 (some 53) (ar 36 13) HT_ (h := ?_)
                    refine sY 13 (some 54) (ar 36 14) HT_ (h := ?_)
                    refine sY 14 (some 55) (ar 36 15) HT_ (h := ?_)
                    refine sY 15 (some 56) (ar 36 16) HT_ (h := ?_)
                    refine sY 16 (some 57) (ar 36 17) HT_ (h := ?_)
                    refine sY 17 (some 58) (ar 36 18) HT_ (h := ?_)
                    refine sY 18 (some 59) (ar 36 19) HT_ (h := ?_)
                    refine sY 19 (some 60) (ar 36 20) HT_ (h := ?_)
                    refine sY 20 (some 61) (ar 36 21) HT_ (h := ?_)
                    refine sY 21 (some 62) (ar 36 22) HT_ (h := ?_)
                    refine sY 22 (some 63) (ar 36 23) HT_ (h := ?_)
                    refine sY 23 (some 64) (ar 36 24) HT_ (h := ?_)
                    refine sY 24 (some 65) (ar 36 25) HT_ (h := ?_)
                    refine sY 25 (some 66) (ar 36 26) HT_ (h := ?_)
                    refine sY 26 (some 67) (ar 36 27) HT_ (h := ?_)
                    refine sY 27 (some 68) (ar 36 28) HT_ (h := ?_)
                    refine sY 28 (some 69) (ar 36 29) HT_ (h := ?_)
                    refine sY 29 (some 70) (ar 36 30) HT_ (h := ?_)
                    refine sY 30 (some 71) (ar 36 31) HT_ (h := ?_)
                    refine sY 31 (some 72) (ar 36 32) HT_ (h := ?_)
                    refine sY 32 (some 73) (ar 36 33) HT_ (h := ?_)
                    refine sY 33 (some 74) (ar 36 34) HT_ (h := ?_)
                    refine sY 34 (some 75) (ar 36 35) HT_ (h := ?_)
                    refine pY 35 (some 76) (ar 36 36) HT_ (h := ?_)
                    refine done_ (done_of HT_.out (by kernel_rfl)) ?_
                    try go_wp2
                    go_meet
                    case rel => exact ⟨_, rfl, HBAD, HB⟩
                have hne : (k != i) = true := by simpa using hki
                cases ha : ansB (rd_T39 l i) with
                | false =>
                  have hbad : bad2 l i k = false := by simp [bad2, ha]
                  have HBAD := Lib.hid hbad
                  clear hbad
                  have ha' : ((rd_T39 l i).f6 != -1) = false := ha
                  have HA := Lib.hid (fun W => ranswered_any (rd_T39 l i).f0 (rd_T39 l i).f1 (rd_T39 l i).f2 (rd_T39 l i).f3 (rd_T39 l i).f4.f0 (rd_T39 l i).f4.f1 (rd_T39 l i).f4.f2 (rd_T39 l i).f4.f3 (rd_T39 l i).f5 (rd_T39 l i).f6 (rd_T39 l i).f7.f0 (rd_T39 l i).f7.f1 (rd_T39 l i).f8.f0 (rd_T39 l i).f8.f1 (rd_T39 l i).f8.f2 (rd_T39 l i).f9 false ha' W)
                  clear ha ha' hki
                  have PI := Lib.hid (show 0 ≤ i ∧ i < (l.length : Int) by omega)
                  have pI := eq_true PI.out.1
                  have qI := eq_true PI.out.2
                  have PK := Lib.hid (show 0 ≤ k ∧ k < (l.length : Int) by omega)
                  have pK := eq_true PK.out.1
                  have qK := eq_true PK.out.2
                  clear i0 i1 hlt k0 hk hkn
                  as_aux_lemma =>
                    obtain ⟨ad, eA, -⟩ := at_T39 HR.out i PI.out.1 PI.out.2
                    cases eA
                    refine start_ (n := 36) (S := fun w1 => Below w.heap.size w w1) (ds := []) (ar 36 0) (by kernel_rfl) rfl rfl (below_drew1 HB.out) (fun hHeld => ?_); refine with_tabW rchk.tab9 rchk.bits9 (fun HT_ HW_ => ?_)
                    replace HB := Lib.hid (below_drew1 HB.out)
                    generalize wr.drew = wz at HB hHeld ⊢
                    refine pY 0 (some 41) (ar 36 1) HT_ (h := ?_)
                    refine pY 1 (some 42) (ar 36 2) HT_ (h := ?_)
                    refine pY 2 (some 43) (ar 36 3) HT_ (h := ?_)
                    refine pY 3 (some 44) (ar 36 4) HT_ (h := ?_)
                    refine pY 4 (some 45) (ar 36 5) HT_ (h := ?_)
                    refine pY 5 (some 46) (ar 36 6) HT_ (h := ?_)
                    refine pY 6 (some 47) (ar 36 7) HT_ (h := ?_)
                    refine take_ (i := 7) (N := (some 48)) (v := ?_) (a' := ?_) (ar 36 8) rfl rfl (take_ofW HT_.out HW_.out (by kernel_rfl)) (fun _ _ _ h => h) (Or.inl ⟨by rfl, ?_⟩) hHeld ?_ ?_; rotate_left; (· rintro w1 hs1; obtain ⟨adI, eI, xI_0, xI_1, xI_2, xI_3, xI_4, xI_5, xI_6, xI_7, xI_8, xI_9, xI_10, xI_11, xI_12, xI_13, xI_14, xI_15⟩ := at_T39 (Kd.C_below HR.out hs1) i PI.out.1 PI.out.2; obtain ⟨adK, eK, xK_0, xK_1, xK_2, xK_3, xK_4, xK_5, xK_6, xK_7, xK_8, xK_9, xK_10, xK_11, xK_12, xK_13, xK_14, xK_15⟩ := at_T39 (Kd.C_below HR.out hs1) k PK.out.1 PK.out.2; obtain rfl : ad = adI := (by injection eI); obtain rfl : ad = adK := (by injection eK); clear hs1; go_simp; with_reducible rfl); rotate_left; (· simp only [Act.put, List.setIfInBounds_toArray, List.set_cons_zero, List.set_cons_succ, i64_w, i32_w]; rfl)
                    refine one_ (i := 8) (N := (some 49)) (ar 36 9) rfl rfl (one_of HT_.out (by kernel_rfl)) (by decide) (fun K hK => ?_); refine goes_ Try.func44 (by kernel_rfl) rfl #[.agg #[.int .i64 (rd_T39 l i).f0, .int .i64 (rd_T39 l i).f1, .bool (rd_T39 l i).f2, .string (rd_T39 l i).f3, .int .i64 (rd_T39 l i).f4.f0, .string (rd_T39 l i).f4.f1, .string (rd_T39 l i).f4.f2, .int .i64 (rd_T39 l i).f4.f3, .int .i64 (rd_T39 l i).f5, .int .i64 (rd_T39 l i).f6, .int .i64 (rd_T39 l i).f7.f0, .int .i64 (rd_T39 l i).f7.f1, .string (rd_T39 l i).f8.f0, .string (rd_T39 l i).f8.f1, .int .i64 (rd_T39 l i).f8.f2, .bool (rd_T39 l i).f9]] (by rfl) rfl rfl (by (try simp only [List.map_toArray, List.map_cons, List.map_nil]); first | done | rfl) ?_; with_reducible refine (HA.out _).mono ?_; rintro e w12 ⟨rfl, hb⟩; refine ⟨_, rfl, ?_⟩; replace HB := Lib.hid (below_step HB.out hb); clear hb; refine hK.out _ _ HB.out (fun hHeld => ?_); clear hK K; refine norm_ (a' := ?_) ?_ ?_; rotate_left; (· show Act.put _ (some 49) _ = _; simp only [Act.put, List.setIfInBounds_toArray, List.set_cons_zero, List.set_cons_succ, i64_w, i32_w]; rfl)
                    refine pY 9 (some 50) (ar 36 10) HT_ (h := ?_)
                    refine pY 10 (some 51) (ar 36 11) HT_ (h := ?_)
                    refine sY 11 (some 52) (ar 36 12) HT_ (h := ?_)
                    refine sY 12 (some 53) (ar 36 13) HT_ (h := ?_)
                    refine sY 13 (some 54) (ar 36 14) HT_ (h := ?_)
                    refine sY 14 (some 55) (ar 36 15) HT_ (h := ?_)
                    refine sY 15 (some 56) (ar 36 16) HT_ (h := ?_)
                    refine sY 16 (some 57) (ar 36 17) HT_ (h := ?_)
                    refine sY 17 (some 58) (ar 36 18) HT_ (h := ?_)
                    refine sY 18 (some 59) (ar 36 19) HT_ (h := ?_)
                    refine sY 19 (some 60) (ar 36 20) HT_ (h := ?_)
                    refine sY 20 (some 61) (ar 36 21) HT_ (h := ?_)
                    refine sY 21 (some 62) (ar 36 22) HT_ (h := ?_)
                    refine sY 22 (some 63) (ar 36 23) HT_ (h := ?_)
                    refine sY 23 (some 64) (ar 36 24) HT_ (h := ?_)
                    refine sY 24 (some 65) (ar 36 25) HT_ (h := ?_)
                    refine sY 25 (some 66) (ar 36 26) HT_ (h := ?_)
                    refine sY 26 (some 67) (ar 36 27) HT_ (h := ?_)
                    refine sY 27 (some 68) (ar 36 28) HT_ (h := ?_)
                    refine sY 28 (some 69) (ar 36 29) HT_ (h := ?_)
                    refine sY 29 (some 70) (ar 36 30) HT_ (h := ?_)
                    refine sY 30 (some 71) (ar 36 31) HT_ (h := ?_)
                    refine sY 31 (some 72) (ar 36 32) HT_ (h := ?_)
                    refine sY 32 (some 73) (ar 36 33) HT_ (h := ?_)
                    refine sY 33 (some 74) (ar 36 34) HT_ (h := ?_)
                    refine sY 34 (some 75) (ar 36 35) HT_ (h := ?_)
                    refine pY 35 (some 76) (ar 36 36) HT_ (h := ?_)
                    refine done_ (done_of HT_.out (by kernel_rfl)) ?_
                    try go_wp2
                    go_meet
                    case rel => exact ⟨_, rfl, HBAD, HB⟩
                | true =>
                  have ha' : ((rd_T39 l i).f6 != -1) = true := ha
                  have HA := Lib.hid (fun W => ranswered_any (rd_T39 l i).f0 (rd_T39 l i).f1 (rd_T39 l i).f2 (rd_T39 l i).f3 (rd_T39 l i).f4.f0 (rd_T39 l i).f4.f1 (rd_T39 l i).f4.f2 (rd_T39 l i).f4.f3 (rd_T39 l i).f5 (rd_T39 l i).f6 (rd_T39 l i).f7.f0 (rd_T39 l i).f7.f1 (rd_T39 l i).f8.f0 (rd_T39 l i).f8.f1 (rd_T39 l i).f8.f2 (rd_T39 l i).f9 true ha' W)
                  by_cases he : (rd_T39 l i).f6 = (rd_T39 l k).f5
                  · have hbad : bad2 l i k = true := by simp [bad2, ha, hki, hne, he]
                    have HBAD := Lib.hid hbad
                    clear hbad
                    have he' : ((rd_T39 l i).f6 == (rd_T39 l k).f5) = true := by simpa using he
                    clear ha ha' hki he
                    have PI := Lib.hid (show 0 ≤ i ∧ i < (l.length : Int) by omega)
                    have pI := eq_true PI.out.1
                    have qI := eq_true PI.out.2
                    have PK := Lib.hid (show 0 ≤ k ∧ k < (l.length : Int) by omega)
                    have pK := eq_true PK.out.1
                    have qK := eq_true PK.out.2
                    clear i0 i1 hlt k0 hk hkn
                    as_aux_lemma =>
                      obtain ⟨ad, eA, -⟩ := at_T39 HR.out i PI.out.1 PI.out.2
                      cases eA
                      refine start_ (n := 36) (S := fun w1 => Below w.heap.size w w1) (ds := []) (ar 36 0) (by kernel_rfl) rfl rfl (below_drew1 HB.out) (fun hHeld => ?_); refine with_tabW rchk.tab9 rchk.bits9 (fun HT_ HW_ => ?_)
                      replace HB := Lib.hid (below_drew1 HB.out)
                      generalize wr.drew = wz at HB hHeld ⊢
                      refine pY 0 (some 41) (ar 36 1) HT_ (h := ?_)
                      refine pY 1 (some 42) (ar 36 2) HT_ (h := ?_)
                      refine pY 2 (some 43) (ar 36 3) HT_ (h := ?_)
                      refine pY 3 (some 44) (ar 36 4) HT_ (h := ?_)
                      refine pY 4 (some 45) (ar 36 5) HT_ (h := ?_)
                      refine pY 5 (some 46) (ar 36 6) HT_ (h := ?_)
                      refine pY 6 (some 47) (ar 36 7) HT_ (h := ?_)
                      refine take_ (i := 7) (N := (some 48)) (v := ?_) (a' := ?_) (ar 36 8) rfl rfl (take_ofW HT_.out HW_.out (by kernel_rfl)) (fun _ _ _ h => h) (Or.inl ⟨by rfl, ?_⟩) hHeld ?_ ?_; rotate_left; (· rintro w1 hs1; obtain ⟨adI, eI, xI_0, xI_1, xI_2, xI_3, xI_4, xI_5, xI_6, xI_7, xI_8, xI_9, xI_10, xI_11, xI_12, xI_13, xI_14, xI_15⟩ := at_T39 (Kd.C_below HR.out hs1) i PI.out.1 PI.out.2; obtain ⟨adK, eK, xK_0, xK_1, xK_2, xK_3, xK_4, xK_5, xK_6, xK_7, xK_8, xK_9, xK_10, xK_11, xK_12, xK_13, xK_14, xK_15⟩ := at_T39 (Kd.C_below HR.out hs1) k PK.out.1 PK.out.2; obtain rfl : ad = adI := (by injection eI); obtain rfl : ad = adK := (by injection eK); clear hs1; go_simp; with_reducible rfl); rotate_left; (· simp only [Act.put, List.setIfInBounds_toArray, List.set_cons_zero, List.set_cons_succ, i64_w, i32_w]; rfl)
                      refine one_ (i := 8) (N := (some 49)) (ar 36 9) rfl rfl (one_of HT_.out (by kernel_rfl)) (by decide) (fun K hK => ?_); refine goes_ Try.func44 (by kernel_rfl) rfl #[.agg #[.int .i64 (rd_T39 l i).f0, .int .i64 (rd_T39 l i).f1, .bool (rd_T39 l i).f2, .string (rd_T39 l i).f3, .int .i64 (rd_T39 l i).f4.f0, .string (rd_T39 l i).f4.f1, .string (rd_T39 l i).f4.f2, .int .i64 (rd_T39 l i).f4.f3, .int .i64 (rd_T39 l i).f5, .int .i64 (rd_T39 l i).f6, .int .i64 (rd_T39 l i).f7.f0, .int .i64 (rd_T39 l i).f7.f1, .string (rd_T39 l i).f8.f0, .string (rd_T39 l i).f8.f1, .int .i64 (rd_T39 l i).f8.f2, .bool (rd_T39 l i).f9]] (by rfl) rfl rfl (by (try simp only [List.map_toArray, List.map_cons, List.map_nil]); first | done | rfl) ?_; with_reducible refine (HA.out _).mono ?_; rintro e w12 ⟨rfl, hb⟩; refine ⟨_, rfl, ?_⟩; replace HB := Lib.hid (below_step HB.out hb); clear hb; refine hK.out _ _ HB.out (fun hHeld => ?_); clear hK K; refine norm_ (a' := ?_) ?_ ?_; rotate_left; (· show Act.put _ (some 49) _ = _; simp only [Act.put, List.setIfInBounds_toArray, List.set_cons_zero, List.set_cons_succ, i64_w, i32_w]; rfl)
                      refine pY 9 (some 50) (ar 36 10) HT_ (h := ?_)
                      refine pY 10 (some 51) (ar 36 11) HT_ (h := ?_)
                      refine pY 11 (some 52) (ar 36 12) HT_ (h := ?_)
                      refine pY 12 (some 53) (ar 36 13) HT_ (h := ?_)
                      refine pY 13 (some 54) (ar 36 14) HT_ (h := ?_)
                      refine pY 14 (some 55) (ar 36 15) HT_ (h := ?_)
                      refine take_ (i := 15) (N := (some 56)) (v := ?_) (a' := ?_) (ar 36 16) rfl rfl (take_ofW HT_.out HW_.out (by kernel_rfl)) (fun _ _ _ h => h) (Or.inl ⟨by rfl, ?_⟩) hHeld ?_ ?_; rotate_left; (· rintro w1 hs1; obtain ⟨adI, eI, xI_0, xI_1, xI_2, xI_3, xI_4, xI_5, xI_6, xI_7, xI_8, xI_9, xI_10, xI_11, xI_12, xI_13, xI_14, xI_15⟩ := at_T39 (Kd.C_below HR.out hs1) i PI.out.1 PI.out.2; obtain ⟨adK, eK, xK_0, xK_1, xK_2, xK_3, xK_4, xK_5, xK_6, xK_7, xK_8, xK_9, xK_10, xK_11, xK_12, xK_13, xK_14, xK_15⟩ := at_T39 (Kd.C_below HR.out hs1) k PK.out.1 PK.out.2; obtain rfl : ad = adI := (by injection eI); obtain rfl : ad = adK := (by injection eK); clear hs1; go_simp; with_reducible rfl); rotate_left; (· simp only [Act.put, List.setIfInBounds_toArray, List.set_cons_zero, List.set_cons_succ, i64_w, i32_w]; rfl)
                      refine pY 16 (some 57) (ar 36 17) HT_ (h := ?_)
                      refine pY 17 (some 58) (ar 36 18) HT_ (h := ?_)
                      refine pY 18 (some 59) (ar 36 19) HT_ (h := ?_)
                      refine pY 19 (some 60) (ar 36 20) HT_ (h := ?_)
                      refine take_ (i := 20) (N := (some 61)) (v := ?_) (a' := ?_) (ar 36 21) rfl rfl (take_ofW HT_.out HW_.out (by kernel_rfl)) (fun _ _ _ h => h) (Or.inl ⟨by rfl, ?_⟩) hHeld ?_ ?_; rotate_left; (· rintro w1 hs1; obtain ⟨adI, eI, xI_0, xI_1, xI_2, xI_3, xI_4, xI_5, xI_6, xI_7, xI_8, xI_9, xI_10, xI_11, xI_12, xI_13, xI_14, xI_15⟩ := at_T39 (Kd.C_below HR.out hs1) i PI.out.1 PI.out.2; obtain ⟨adK, eK, xK_0, xK_1, xK_2, xK_3, xK_4, xK_5, xK_6, xK_7, xK_8, xK_9, xK_10, xK_11, xK_12, xK_13, xK_14, xK_15⟩ := at_T39 (Kd.C_below HR.out hs1) k PK.out.1 PK.out.2; obtain rfl : ad = adI := (by injection eI); obtain rfl : ad = adK := (by injection eK); clear hs1; go_simp; with_reducible rfl); rotate_left; (· simp only [Act.put, List.setIfInBounds_toArray, List.set_cons_zero, List.set_cons_succ, i64_w, i32_w]; rfl)
                      refine pY 21 (some 62) (ar 36 22) HT_ (h := ?_)
                      refine pY 22 (some 63) (ar 36 23) HT_ (h := ?_)
                      refine sY 23 (some 64) (ar 36 24) HT_ (h := ?_)
                      refine sY 24 (some 65) (ar 36 25) HT_ (h := ?_)
                      refine sY 25 (some 66) (ar 36 26) HT_ (h := ?_)
                      refine sY 26 (some 67) (ar 36 27) HT_ (h := ?_)
                      refine sY 27 (some 68) (ar 36 28) HT_ (h := ?_)
                      refine sY 28 (some 69) (ar 36 29) HT_ (h := ?_)
                      refine sY 29 (some 70) (ar 36 30) HT_ (h := ?_)
                      refine sY 30 (some 71) (ar 36 31) HT_ (h := ?_)
                      refine sY 31 (some 72) (ar 36 32) HT_ (h := ?_)
                      refine sY 32 (some 73) (ar 36 33) HT_ (h := ?_)
                      refine sY 33 (some 74) (ar 36 34) HT_ (h := ?_)
                      refine pY 34 (some 75) (ar 36 35) HT_ (h := ?_)
                      refine pY 35 (some 76) (ar 36 36) HT_ (h := ?_)
                      refine done_ (done_of HT_.out (by kernel_rfl)) ?_
                      try go_wp2
                      go_meet
                      case rel => exact ⟨_, rfl, HBAD, HB⟩
                  · have hbad : bad2 l i k = ((rd_T39 l i).f6 == (rd_T39 l k).f6) := by simp [bad2, ha, hki, hne, he]
                    have HBAD := Lib.hid hbad
                    clear hbad
                    have he' : ((rd_T39 l i).f6 == (rd_T39 l k).f5) = false := by simpa using he
                    clear ha ha' hki he
                    have PI := Lib.hid (show 0 ≤ i ∧ i < (l.length : Int) by omega)
                    have pI := eq_true PI.out.1
                    have qI := eq_true PI.out.2
                    have PK := Lib.hid (show 0 ≤ k ∧ k < (l.length : Int) by omega)
                    have pK := eq_true PK.out.1
                    have qK := eq_true PK.out.2
                    clear i0 i1 hlt k0 hk hkn
                    as_aux_lemma =>
                      obtain ⟨ad, eA, -⟩ := at_T39 HR.out i PI.out.1 PI.out.2
                      cases eA
                      refine start_ (n := 36) (S := fun w1 => Below w.heap.size w w1) (ds := []) (ar 36 0) (by kernel_rfl) rfl rfl (below_drew1 HB.out) (fun hHeld => ?_); refine with_tabW rchk.tab9 rchk.bits9 (fun HT_ HW_ => ?_)
                      replace HB := Lib.hid (below_drew1 HB.out)
                      generalize wr.drew = wz at HB hHeld ⊢
                      refine pY 0 (some 41) (ar 36 1) HT_ (h := ?_)
                      refine pY 1 (some 42) (ar 36 2) HT_ (h := ?_)
                      refine pY 2 (some 43) (ar 36 3) HT_ (h := ?_)
                      refine pY 3 (some 44) (ar 36 4) HT_ (h := ?_)
                      refine pY 4 (some 45) (ar 36 5) HT_ (h := ?_)
                      refine pY 5 (some 46) (ar 36 6) HT_ (h := ?_)
                      refine pY 6 (some 47) (ar 36 7) HT_ (h := ?_)
                      refine take_ (i := 7) (N := (some 48)) (v := ?_) (a' := ?_) (ar 36 8) rfl rfl (take_ofW HT_.out HW_.out (by kernel_rfl)) (fun _ _ _ h => h) (Or.inl ⟨by rfl, ?_⟩) hHeld ?_ ?_; rotate_left; (· rintro w1 hs1; obtain ⟨adI, eI, xI_0, xI_1, xI_2, xI_3, xI_4, xI_5, xI_6, xI_7, xI_8, xI_9, xI_10, xI_11, xI_12, xI_13, xI_14, xI_15⟩ := at_T39 (Kd.C_below HR.out hs1) i PI.out.1 PI.out.2; obtain ⟨adK, eK, xK_0, xK_1, xK_2, xK_3, xK_4, xK_5, xK_6, xK_7, xK_8, xK_9, xK_10, xK_11, xK_12, xK_13, xK_14, xK_15⟩ := at_T39 (Kd.C_below HR.out hs1) k PK.out.1 PK.out.2; obtain rfl : ad = adI := (by injection eI); obtain rfl : ad = adK := (by injection eK); clear hs1; go_simp; with_reducible rfl); rotate_left; (· simp only [Act.put, List.setIfInBounds_toArray, List.set_cons_zero, List.set_cons_succ, i64_w, i32_w]; rfl)
                      refine one_ (i := 8) (N := (some 49)) (ar 36 9) rfl rfl (one_of HT_.out (by kernel_rfl)) (by decide) (fun K hK => ?_); refine goes_ Try.func44 (by kernel_rfl) rfl #[.agg #[.int .i64 (rd_T39 l i).f0, .int .i64 (rd_T39 l i).f1, .bool (rd_T39 l i).f2, .string (rd_T39 l i).f3, .int .i64 (rd_T39 l i).f4.f0, .string (rd_T39 l i).f4.f1, .string (rd_T39 l i).f4.f2, .int .i64 (rd_T39 l i).f4.f3, .int .i64 (rd_T39 l i).f5, .int .i64 (rd_T39 l i).f6, .int .i64 (rd_T39 l i).f7.f0, .int .i64 (rd_T39 l i).f7.f1, .string (rd_T39 l i).f8.f0, .string (rd_T39 l i).f8.f1, .int .i64 (rd_T39 l i).f8.f2, .bool (rd_T39 l i).f9]] (by rfl) rfl rfl (by (try simp only [List.map_toArray, List.map_cons, List.map_nil]); first | done | rfl) ?_; with_reducible refine (HA.out _).mono ?_; rintro e w12 ⟨rfl, hb⟩; refine ⟨_, rfl, ?_⟩; replace HB := Lib.hid (below_step HB.out hb); clear hb; refine hK.out _ _ HB.out (fun hHeld => ?_); clear hK K; refine norm_ (a' := ?_) ?_ ?_; rotate_left; (· show Act.put _ (some 49) _ = _; simp only [Act.put, List.setIfInBounds_toArray, List.set_cons_zero, List.set_cons_succ, i64_w, i32_w]; rfl)
                      refine pY 9 (some 50) (ar 36 10) HT_ (h := ?_)
                      refine pY 10 (some 51) (ar 36 11) HT_ (h := ?_)
                      refine pY 11 (some 52) (ar 36 12) HT_ (h := ?_)
                      refine pY 12 (some 53) (ar 36 13) HT_ (h := ?_)
                      refine pY 13 (some 54) (ar 36 14) HT_ (h := ?_)
                      refine pY 14 (some 55) (ar 36 15) HT_ (h := ?_)
                      refine take_ (i := 15) (N := (some 56)) (v := ?_) (a' := ?_) (ar 36 16) rfl rfl (take_ofW HT_.out HW_.out (by kernel_rfl)) (fun _ _ _ h => h) (Or.inl ⟨by rfl, ?_⟩) hHeld ?_ ?_; rotate_left; (· rintro w1 hs1; obtain ⟨adI, eI, xI_0, xI_1, xI_2, xI_3, xI_4, xI_5, xI_6, xI_7, xI_8, xI_9, xI_10, xI_11, xI_12, xI_13, xI_14, xI_15⟩ := at_T39 (Kd.C_below HR.out hs1) i PI.out.1 PI.out.2; obtain ⟨adK, eK, xK_0, xK_1, xK_2, xK_3, xK_4, xK_5, xK_6, xK_7, xK_8, xK_9, xK_10, xK_11, xK_12, xK_13, xK_14, xK_15⟩ := at_T39 (Kd.C_below HR.out hs1) k PK.out.1 PK.out.2; obtain rfl : ad = adI := (by injection eI); obtain rfl : ad = adK := (by injection eK); clear hs1; go_simp; with_reducible rfl); rotate_left; (· simp only [Act.put, List.setIfInBounds_toArray, List.set_cons_zero, List.set_cons_succ, i64_w, i32_w]; rfl)
                      refine pY 16 (some 57) (ar 36 17) HT_ (h := ?_)
                      refine pY 17 (some 58) (ar 36 18) HT_ (h := ?_)
                      refine pY 18 (some 59) (ar 36 19) HT_ (h := ?_)
                      refine pY 19 (some 60) (ar 36 20) HT_ (h := ?_)
                      refine take_ (i := 20) (N := (some 61)) (v := ?_) (a' := ?_) (ar 36 21) rfl rfl (take_ofW HT_.out HW_.out (by kernel_rfl)) (fun _ _ _ h => h) (Or.inl ⟨by rfl, ?_⟩) hHeld ?_ ?_; rotate_left; (· rintro w1 hs1; obtain ⟨adI, eI, xI_0, xI_1, xI_2, xI_3, xI_4, xI_5, xI_6, xI_7, xI_8, xI_9, xI_10, xI_11, xI_12, xI_13, xI_14, xI_15⟩ := at_T39 (Kd.C_below HR.out hs1) i PI.out.1 PI.out.2; obtain ⟨adK, eK, xK_0, xK_1, xK_2, xK_3, xK_4, xK_5, xK_6, xK_7, xK_8, xK_9, xK_10, xK_11, xK_12, xK_13, xK_14, xK_15⟩ := at_T39 (Kd.C_below HR.out hs1) k PK.out.1 PK.out.2; obtain rfl : ad = adI := (by injection eI); obtain rfl : ad = adK := (by injection eK); clear hs1; go_simp; with_reducible rfl); rotate_left; (· simp only [Act.put, List.setIfInBounds_toArray, List.set_cons_zero, List.set_cons_succ, i64_w, i32_w]; rfl)
                      refine pY 21 (some 62) (ar 36 22) HT_ (h := ?_)
                      refine pY 22 (some 63) (ar 36 23) HT_ (h := ?_)
                      refine pY 23 (some 64) (ar 36 24) HT_ (h := ?_)
                      refine pY 24 (some 65) (ar 36 25) HT_ (h := ?_)
                      refine pY 25 (some 66) (ar 36 26) HT_ (h := ?_)
                      refine pY 26 (some 67) (ar 36 27) HT_ (h := ?_)
                      refine take_ (i := 27) (N := (some 68)) (v := ?_) (a' := ?_) (ar 36 28) rfl rfl (take_ofW HT_.out HW_.out (by kernel_rfl)) (fun _ _ _ h => h) (Or.inl ⟨by rfl, ?_⟩) hHeld ?_ ?_; rotate_left; (· rintro w1 hs1; obtain ⟨adI, eI, xI_0, xI_1, xI_2, xI_3, xI_4, xI_5, xI_6, xI_7, xI_8, xI_9, xI_10, xI_11, xI_12, xI_13, xI_14, xI_15⟩ := at_T39 (Kd.C_below HR.out hs1) i PI.out.1 PI.out.2; obtain ⟨adK, eK, xK_0, xK_1, xK_2, xK_3, xK_4, xK_5, xK_6, xK_7, xK_8, xK_9, xK_10, xK_11, xK_12, xK_13, xK_14, xK_15⟩ := at_T39 (Kd.C_below HR.out hs1) k PK.out.1 PK.out.2; obtain rfl : ad = adI := (by injection eI); obtain rfl : ad = adK := (by injection eK); clear hs1; go_simp; with_reducible rfl); rotate_left; (· simp only [Act.put, List.setIfInBounds_toArray, List.set_cons_zero, List.set_cons_succ, i64_w, i32_w]; rfl)
                      refine pY 28 (some 69) (ar 36 29) HT_ (h := ?_)
                      refine pY 29 (some 70) (ar 36 30) HT_ (h := ?_)
                      refine pY 30 (some 71) (ar 36 31) HT_ (h := ?_)
                      refine pY 31 (some 72) (ar 36 32) HT_ (h := ?_)
                      refine take_ (i := 32) (N := (some 73)) (v := ?_) (a' := ?_) (ar 36 33) rfl rfl (take_ofW HT_.out HW_.out (by kernel_rfl)) (fun _ _ _ h => h) (Or.inl ⟨by rfl, ?_⟩) hHeld ?_ ?_; rotate_left; (· rintro w1 hs1; obtain ⟨adI, eI, xI_0, xI_1, xI_2, xI_3, xI_4, xI_5, xI_6, xI_7, xI_8, xI_9, xI_10, xI_11, xI_12, xI_13, xI_14, xI_15⟩ := at_T39 (Kd.C_below HR.out hs1) i PI.out.1 PI.out.2; obtain ⟨adK, eK, xK_0, xK_1, xK_2, xK_3, xK_4, xK_5, xK_6, xK_7, xK_8, xK_9, xK_10, xK_11, xK_12, xK_13, xK_14, xK_15⟩ := at_T39 (Kd.C_below HR.out hs1) k PK.out.1 PK.out.2; obtain rfl : ad = adI := (by injection eI); obtain rfl : ad = adK := (by injection eK); clear hs1; go_simp; with_reducible rfl); rotate_left; (· simp only [Act.put, List.setIfInBounds_toArray, List.set_cons_zero, List.set_cons_succ, i64_w, i32_w]; rfl)
                      refine pY 33 (some 74) (ar 36 34) HT_ (h := ?_)
                      refine pY 34 (some 75) (ar 36 35) HT_ (h := ?_)
                      refine pY 35 (some 76) (ar 36 36) HT_ (h := ?_)
                      refine done_ (done_of HT_.out (by kernel_rfl)) ?_
                      try go_wp2
                      go_meet
                      case rel => exact ⟨_, rfl, HBAD, HB⟩
              case rest =>
                obtain ⟨b, rfl, H2, HB3⟩ := hcut
                clear HB
                cases b with
                | true =>
                  have HX := Lib.hid (refF_bad i i0 hlt (fun h => by have h3 := (h.2 k k0 hkn).1; rw [H2.out] at h3; exact absurd h3 (by decide)))
                  go_wp2
                  go_ret
                  exact ⟨ret_i HX.out.symm, HB3.out⟩
                | false =>
                  go_upto_region 11 with (fail)
                  go_cut [126] (fun v126 wc => ∃ b : Bool, v126 = .bool b ∧ RowKit.Hid (bad3 l i k = b) ∧ RowKit.Hid (Below w.heap.size w wc))
                  case first =>
                    have HB := HB3
                    clear HB3
                    by_cases hki : k < i
                    · have hki' : decide (k < i) = true := decide_eq_true hki
                      by_cases hcl : (rd_T39 l k).f0 = (rd_T39 l i).f0
                      · have hcl' : ((rd_T39 l k).f0 == (rd_T39 l i).f0) = true := by simpa using hcl
                        cases ha : ansB (rd_T39 l k) with
                        | false =>
                          have hbad : bad3 l i k = true := by simp [bad3, ha, hki, hcl]
                          have HBAD := Lib.hid hbad
                          clear hbad
                          have ha' : ((rd_T39 l k).f6 != -1) = false := ha
                          have HA := Lib.hid (fun W => ranswered_any (rd_T39 l k).f0 (rd_T39 l k).f1 (rd_T39 l k).f2 (rd_T39 l k).f3 (rd_T39 l k).f4.f0 (rd_T39 l k).f4.f1 (rd_T39 l k).f4.f2 (rd_T39 l k).f4.f3 (rd_T39 l k).f5 (rd_T39 l k).f6 (rd_T39 l k).f7.f0 (rd_T39 l k).f7.f1 (rd_T39 l k).f8.f0 (rd_T39 l k).f8.f1 (rd_T39 l k).f8.f2 (rd_T39 l k).f9 false ha' W)
                          clear ha ha' hki hcl
                          have PI := Lib.hid (show 0 ≤ i ∧ i < (l.length : Int) by omega)
                          have pI := eq_true PI.out.1
                          have qI := eq_true PI.out.2
                          have PK := Lib.hid (show 0 ≤ k ∧ k < (l.length : Int) by omega)
                          have pK := eq_true PK.out.1
                          have qK := eq_true PK.out.2
                          clear i0 i1 hlt k0 hk hkn
                          as_aux_lemma =>
                            obtain ⟨ad, eA, -⟩ := at_T39 HR.out i PI.out.1 PI.out.2
                            cases eA
                            refine start_ (n := 50) (S := fun w1 => Below w.heap.size w w1) (ds := []) (ar 50 0) (by kernel_rfl) rfl rfl (below_drew1 HB.out) (fun hHeld => ?_); refine with_tabW rchk.tab11 rchk.bits11 (fun HT_ HW_ => ?_)
                            replace HB := Lib.hid (below_drew1 HB.out)
                            generalize wc.drew = wz at HB hHeld ⊢
                            refine pY 0 (some 77) (ar 50 1) HT_ (h := ?_)
                            refine pY 1 (some 78) (ar 50 2) HT_ (h := ?_)
                            refine pY 2 (some 79) (ar 50 3) HT_ (h := ?_)
                            refine pY 3 (some 80) (ar 50 4) HT_ (h := ?_)
                            refine pY 4 (some 81) (ar 50 5) HT_ (h := ?_)
                            refine pY 5 (some 82) (ar 50 6) HT_ (h := ?_)
                            refine pY 6 (some 83) (ar 50 7) HT_ (h := ?_)
                            refine pY 7 (some 84) (ar 50 8) HT_ (h := ?_)
                            refine take_ (i := 8) (N := (some 85)) (v := ?_) (a' := ?_) (ar 50 9) rfl rfl (take_ofW HT_.out HW_.out (by kernel_rfl)) (fun _ _ _ h => h) (Or.inl ⟨by rfl, ?_⟩) hHeld ?_ ?_; rotate_left; (· rintro w1 hs1; obtain ⟨adI, eI, xI_0, xI_1, xI_2, xI_3, xI_4, xI_5, xI_6, xI_7, xI_8, xI_9, xI_10, xI_11, xI_12, xI_13, xI_14, xI_15⟩ := at_T39 (Kd.C_below HR.out hs1) i PI.out.1 PI.out.2; obtain ⟨adK, eK, xK_0, xK_1, xK_2, xK_3, xK_4, xK_5, xK_6, xK_7, xK_8, xK_9, xK_10, xK_11, xK_12, xK_13, xK_14, xK_15⟩ := at_T39 (Kd.C_below HR.out hs1) k PK.out.1 PK.out.2; obtain rfl : ad = adI := (by injection eI); obtain rfl : ad = adK := (by injection eK); clear hs1; go_simp; with_reducible rfl); rotate_left; (· simp only [Act.put, List.setIfInBounds_toArray, List.set_cons_zero, List.set_cons_succ, i64_w, i32_w]; rfl)
                            refine pY 9 (some 86) (ar 50 10) HT_ (h := ?_)
                            refine pY 10 (some 87) (ar 50 11) HT_ (h := ?_)
                            refine pY 11 (some 88) (ar 50 12) HT_ (h := ?_)
                            refine pY 12 (some 89) (ar 50 13) HT_ (h := ?_)
                            refine take_ (i := 13) (N := (some 90)) (v := ?_) (a' := ?_) (ar 50 14) rfl rfl (take_ofW HT_.out HW_.out (by kernel_rfl)) (fun _ _ _ h => h) (Or.inl ⟨by rfl, ?_⟩) hHeld ?_ ?_; rotate_left; (· rintro w1 hs1; obtain ⟨adI, eI, xI_0, xI_1, xI_2, xI_3, xI_4, xI_5, xI_6, xI_7, xI_8, xI_9, xI_10, xI_11, xI_12, xI_13, xI_14, xI_15⟩ := at_T39 (Kd.C_below HR.out hs1) i PI.out.1 PI.out.2; obtain ⟨adK, eK, xK_0, xK_1, xK_2, xK_3, xK_4, xK_5, xK_6, xK_7, xK_8, xK_9, xK_10, xK_11, xK_12, xK_13, xK_14, xK_15⟩ := at_T39 (Kd.C_below HR.out hs1) k PK.out.1 PK.out.2; obtain rfl : ad = adI := (by injection eI); obtain rfl : ad = adK := (by injection eK); clear hs1; go_simp; with_reducible rfl); rotate_left; (· simp only [Act.put, List.setIfInBounds_toArray, List.set_cons_zero, List.set_cons_succ, i64_w, i32_w]; rfl)
                            refine pY 14 (some 91) (ar 50 15) HT_ (h := ?_)
                            refine pY 15 (some 92) (ar 50 16) HT_ (h := ?_)
                            refine pY 16 (some 93) (ar 50 17) HT_ (h := ?_)
                            refine pY 17 (some 94) (ar 50 18) HT_ (h := ?_)
                            refine pY 18 (some 95) (ar 50 19) HT_ (h := ?_)
                            refine pY 19 (some 96) (ar 50 20) HT_ (h := ?_)
                            refine take_ (i := 20) (N := (some 97)) (v := ?_) (a' := ?_) (ar 50 21) rfl rfl (take_ofW HT_.out HW_.out (by kernel_rfl)) (fun _ _ _ h => h) (Or.inl ⟨by rfl, ?_⟩) hHeld ?_ ?_; rotate_left; (· rintro w1 hs1; obtain ⟨adI, eI, xI_0, xI_1, xI_2, xI_3, xI_4, xI_5, xI_6, xI_7, xI_8, xI_9, xI_10, xI_11, xI_12, xI_13, xI_14, xI_15⟩ := at_T39 (Kd.C_below HR.out hs1) i PI.out.1 PI.out.2; obtain ⟨adK, eK, xK_0, xK_1, xK_2, xK_3, xK_4, xK_5, xK_6, xK_7, xK_8, xK_9, xK_10, xK_11, xK_12, xK_13, xK_14, xK_15⟩ := at_T39 (Kd.C_below HR.out hs1) k PK.out.1 PK.out.2; obtain rfl : ad = adI := (by injection eI); obtain rfl : ad = adK := (by injection eK); clear hs1; go_simp; with_reducible rfl); rotate_left; (· simp only [Act.put, List.setIfInBounds_toArray, List.set_cons_zero, List.set_cons_succ, i64_w, i32_w]; rfl)
                            refine one_ (i := 21) (N := (some 98)) (ar 50 22) rfl rfl (one_of HT_.out (by kernel_rfl)) (by decide) (fun K hK => ?_); refine goes_ Try.func44 (by kernel_rfl) rfl #[.agg #[.int .i64 (rd_T39 l k).f0, .int .i64 (rd_T39 l k).f1, .bool (rd_T39 l k).f2, .string (rd_T39 l k).f3, .int .i64 (rd_T39 l k).f4.f0, .string (rd_T39 l k).f4.f1, .string (rd_T39 l k).f4.f2, .int .i64 (rd_T39 l k).f4.f3, .int .i64 (rd_T39 l k).f5, .int .i64 (rd_T39 l k).f6, .int .i64 (rd_T39 l k).f7.f0, .int .i64 (rd_T39 l k).f7.f1, .string (rd_T39 l k).f8.f0, .string (rd_T39 l k).f8.f1, .int .i64 (rd_T39 l k).f8.f2, .bool (rd_T39 l k).f9]] (by rfl) rfl rfl (by (try simp only [List.map_toArray, List.map_cons, List.map_nil]); first | done | rfl) ?_; with_reducible refine (HA.out _).mono ?_; rintro e w12 ⟨rfl, hb⟩; refine ⟨_, rfl, ?_⟩; replace HB := Lib.hid (below_step HB.out hb); clear hb; refine hK.out _ _ HB.out (fun hHeld => ?_); clear hK K; refine norm_ (a' := ?_) ?_ ?_; rotate_left; (· show Act.put _ (some 98) _ = _; simp only [Act.put, List.setIfInBounds_toArray, List.set_cons_zero, List.set_cons_succ, i64_w, i32_w]; rfl)
                            refine pY 22 (some 99) (ar 50 23) HT_ (h := ?_)
                            refine pY 23 (some 100) (ar 50 24) HT_ (h := ?_)
                            refine sY 24 (some 101) (ar 50 25) HT_ (h := ?_)
                            refine sY 25 (some 102) (ar 50 26) HT_ (h := ?_)
                            refine sY 26 (some 103) (ar 50 27) HT_ (h := ?_)
                            refine sY 27 (some 104) (ar 50 28) HT_ (h := ?_)
                            refine sY 28 (some 105) (ar 50 29) HT_ (h := ?_)
                            refine sY 29 (some 106) (ar 50 30) HT_ (h := ?_)
                            refine sY 30 (some 107) (ar 50 31) HT_ (h := ?_)
                            refine sY 31 (some 108) (ar 50 32) HT_ (h := ?_)
                            refine sY 32 (some 109) (ar 50 33) HT_ (h := ?_)
                            refine sY 33 (some 110) (ar 50 34) HT_ (h := ?_)
                            refine sY 34 (some 111) (ar 50 35) HT_ (h := ?_)
                            refine pY 35 (some 112) (ar 50 36) HT_ (h := ?_)
                            refine pY 36 (some 113) (ar 50 37) HT_ (h := ?_)
                            refine sY 37 (some 114) (ar 50 38) HT_ (h := ?_)
                            refine sY 38 (some 115) (ar 50 39) HT_ (h := ?_)
                            refine sY 39 (some 116) (ar 50 40) HT_ (h := ?_)
                            refine sY 40 (some 117) (ar 50 41) HT_ (h := ?_)
                            refine sY 41 (some 118) (ar 50 42) HT_ (h := ?_)
                            refine sY 42 (some 119) (ar 50 43) HT_ (h := ?_)
                            refine sY 43 (some 120) (ar 50 44) HT_ (h := ?_)
                            refine sY 44 (some 121) (ar 50 45) HT_ (h := ?_)
                            refine sY 45 (some 122) (ar 50 46) HT_ (h := ?_)
                            refine sY 46 (some 123) (ar 50 47) HT_ (h := ?_)
                            refine sY 47 (some 124) (ar 50 48) HT_ (h := ?_)
                            refine pY 48 (some 125) (ar 50 49) HT_ (h := ?_)
                            refine pY 49 (some 126) (ar 50 50) HT_ (h := ?_)
                            refine done_ (done_of HT_.out (by kernel_rfl)) ?_
                            try go_wp2
                            go_meet
                            case rel => exact ⟨_, rfl, HBAD, HB⟩
                        | true =>
                          have ha' : ((rd_T39 l k).f6 != -1) = true := ha
                          have HA := Lib.hid (fun W => ranswered_any (rd_T39 l k).f0 (rd_T39 l k).f1 (rd_T39 l k).f2 (rd_T39 l k).f3 (rd_T39 l k).f4.f0 (rd_T39 l k).f4.f1 (rd_T39 l k).f4.f2 (rd_T39 l k).f4.f3 (rd_T39 l k).f5 (rd_T39 l k).f6 (rd_T39 l k).f7.f0 (rd_T39 l k).f7.f1 (rd_T39 l k).f8.f0 (rd_T39 l k).f8.f1 (rd_T39 l k).f8.f2 (rd_T39 l k).f9 true ha' W)
                          by_cases he : (rd_T39 l k).f6 ≥ (rd_T39 l i).f5
                          · have hbad : bad3 l i k = true := by simp [bad3, ha, hki, hcl, he]
                            have HBAD := Lib.hid hbad
                            clear hbad
                            have he' : decide ((rd_T39 l k).f6 ≥ (rd_T39 l i).f5) = true := decide_eq_true he
                            clear ha ha' hki hcl he
                            have PI := Lib.hid (show 0 ≤ i ∧ i < (l.length : Int) by omega)
                            have pI := eq_true PI.out.1
                            have qI := eq_true PI.out.2
                            have PK := Lib.hid (show 0 ≤ k ∧ k < (l.length : Int) by omega)
                            have pK := eq_true PK.out.1
                            have qK := eq_true PK.out.2
                            clear i0 i1 hlt k0 hk hkn
                            as_aux_lemma =>
                              obtain ⟨ad, eA, -⟩ := at_T39 HR.out i PI.out.1 PI.out.2
                              cases eA
                              refine start_ (n := 50) (S := fun w1 => Below w.heap.size w w1) (ds := []) (ar 50 0) (by kernel_rfl) rfl rfl (below_drew1 HB.out) (fun hHeld => ?_); refine with_tabW rchk.tab11 rchk.bits11 (fun HT_ HW_ => ?_)
                              replace HB := Lib.hid (below_drew1 HB.out)
                              generalize wc.drew = wz at HB hHeld ⊢
                              refine pY 0 (some 77) (ar 50 1) HT_ (h := ?_)
                              refine pY 1 (some 78) (ar 50 2) HT_ (h := ?_)
                              refine pY 2 (some 79) (ar 50 3) HT_ (h := ?_)
                              refine pY 3 (some 80) (ar 50 4) HT_ (h := ?_)
                              refine pY 4 (some 81) (ar 50 5) HT_ (h := ?_)
                              refine pY 5 (some 82) (ar 50 6) HT_ (h := ?_)
                              refine pY 6 (some 83) (ar 50 7) HT_ (h := ?_)
                              refine pY 7 (some 84) (ar 50 8) HT_ (h := ?_)
                              refine take_ (i := 8) (N := (some 85)) (v := ?_) (a' := ?_) (ar 50 9) rfl rfl (take_ofW HT_.out HW_.out (by kernel_rfl)) (fun _ _ _ h => h) (Or.inl ⟨by rfl, ?_⟩) hHeld ?_ ?_; rotate_left; (· rintro w1 hs1; obtain ⟨adI, eI, xI_0, xI_1, xI_2, xI_3, xI_4, xI_5, xI_6, xI_7, xI_8, xI_9, xI_10, xI_11, xI_12, xI_13, xI_14, xI_15⟩ := at_T39 (Kd.C_below HR.out hs1) i PI.out.1 PI.out.2; obtain ⟨adK, eK, xK_0, xK_1, xK_2, xK_3, xK_4, xK_5, xK_6, xK_7, xK_8, xK_9, xK_10, xK_11, xK_12, xK_13, xK_14, xK_15⟩ := at_T39 (Kd.C_below HR.out hs1) k PK.out.1 PK.out.2; obtain rfl : ad = adI := (by injection eI); obtain rfl : ad = adK := (by injection eK); clear hs1; go_simp; with_reducible rfl); rotate_left; (· simp only [Act.put, List.setIfInBounds_toArray, List.set_cons_zero, List.set_cons_succ, i64_w, i32_w]; rfl)
                              refine pY 9 (some 86) (ar 50 10) HT_ (h := ?_)
                              refine pY 10 (some 87) (ar 50 11) HT_ (h := ?_)
                              refine pY 11 (some 88) (ar 50 12) HT_ (h := ?_)
                              refine pY 12 (some 89) (ar 50 13) HT_ (h := ?_)
                              refine take_ (i := 13) (N := (some 90)) (v := ?_) (a' := ?_) (ar 50 14) rfl rfl (take_ofW HT_.out HW_.out (by kernel_rfl)) (fun _ _ _ h => h) (Or.inl ⟨by rfl, ?_⟩) hHeld ?_ ?_; rotate_left; (· rintro w1 hs1; obtain ⟨adI, eI, xI_0, xI_1, xI_2, xI_3, xI_4, xI_5, xI_6, xI_7, xI_8, xI_9, xI_10, xI_11, xI_12, xI_13, xI_14, xI_15⟩ := at_T39 (Kd.C_below HR.out hs1) i PI.out.1 PI.out.2; obtain ⟨adK, eK, xK_0, xK_1, xK_2, xK_3, xK_4, xK_5, xK_6, xK_7, xK_8, xK_9, xK_10, xK_11, xK_12, xK_13, xK_14, xK_15⟩ := at_T39 (Kd.C_below HR.out hs1) k PK.out.1 PK.out.2; obtain rfl : ad = adI := (by injection eI); obtain rfl : ad = adK := (by injection eK); clear hs1; go_simp; with_reducible rfl); rotate_left; (· simp only [Act.put, List.setIfInBounds_toArray, List.set_cons_zero, List.set_cons_succ, i64_w, i32_w]; rfl)
                              refine pY 14 (some 91) (ar 50 15) HT_ (h := ?_)
                              refine pY 15 (some 92) (ar 50 16) HT_ (h := ?_)
                              refine pY 16 (some 93) (ar 50 17) HT_ (h := ?_)
                              refine pY 17 (some 94) (ar 50 18) HT_ (h := ?_)
                              refine pY 18 (some 95) (ar 50 19) HT_ (h := ?_)
                              refine pY 19 (some 96) (ar 50 20) HT_ (h := ?_)
                              refine take_ (i := 20) (N := (some 97)) (v := ?_) (a' := ?_) (ar 50 21) rfl rfl (take_ofW HT_.out HW_.out (by kernel_rfl)) (fun _ _ _ h => h) (Or.inl ⟨by rfl, ?_⟩) hHeld ?_ ?_; rotate_left; (· rintro w1 hs1; obtain ⟨adI, eI, xI_0, xI_1, xI_2, xI_3, xI_4, xI_5, xI_6, xI_7, xI_8, xI_9, xI_10, xI_11, xI_12, xI_13, xI_14, xI_15⟩ := at_T39 (Kd.C_below HR.out hs1) i PI.out.1 PI.out.2; obtain ⟨adK, eK, xK_0, xK_1, xK_2, xK_3, xK_4, xK_5, xK_6, xK_7, xK_8, xK_9, xK_10, xK_11, xK_12, xK_13, xK_14, xK_15⟩ := at_T39 (Kd.C_below HR.out hs1) k PK.out.1 PK.out.2; obtain rfl : ad = adI := (by injection eI); obtain rfl : ad = adK := (by injection eK); clear hs1; go_simp; with_reducible rfl); rotate_left; (· simp only [Act.put, List.setIfInBounds_toArray, List.set_cons_zero, List.set_cons_succ, i64_w, i32_w]; rfl)
                              refine one_ (i := 21) (N := (some 98)) (ar 50 22) rfl rfl (one_of HT_.out (by kernel_rfl)) (by decide) (fun K hK => ?_); refine goes_ Try.func44 (by kernel_rfl) rfl #[.agg #[.int .i64 (rd_T39 l k).f0, .int .i64 (rd_T39 l k).f1, .bool (rd_T39 l k).f2, .string (rd_T39 l k).f3, .int .i64 (rd_T39 l k).f4.f0, .string (rd_T39 l k).f4.f1, .string (rd_T39 l k).f4.f2, .int .i64 (rd_T39 l k).f4.f3, .int .i64 (rd_T39 l k).f5, .int .i64 (rd_T39 l k).f6, .int .i64 (rd_T39 l k).f7.f0, .int .i64 (rd_T39 l k).f7.f1, .string (rd_T39 l k).f8.f0, .string (rd_T39 l k).f8.f1, .int .i64 (rd_T39 l k).f8.f2, .bool (rd_T39 l k).f9]] (by rfl) rfl rfl (by (try simp only [List.map_toArray, List.map_cons, List.map_nil]); first | done | rfl) ?_; with_reducible refine (HA.out _).mono ?_; rintro e w12 ⟨rfl, hb⟩; refine ⟨_, rfl, ?_⟩; replace HB := Lib.hid (below_step HB.out hb); clear hb; refine hK.out _ _ HB.out (fun hHeld => ?_); clear hK K; refine norm_ (a' := ?_) ?_ ?_; rotate_left; (· show Act.put _ (some 98) _ = _; simp only [Act.put, List.setIfInBounds_toArray, List.set_cons_zero, List.set_cons_succ, i64_w, i32_w]; rfl)
                              refine pY 22 (some 99) (ar 50 23) HT_ (h := ?_)
                              refine pY 23 (some 100) (ar 50 24) HT_ (h := ?_)
                              refine pY 24 (some 101) (ar 50 25) HT_ (h := ?_)
                              refine pY 25 (some 102) (ar 50 26) HT_ (h := ?_)
                              refine pY 26 (some 103) (ar 50 27) HT_ (h := ?_)
                              refine pY 27 (some 104) (ar 50 28) HT_ (h := ?_)
                              refine take_ (i := 28) (N := (some 105)) (v := ?_) (a' := ?_) (ar 50 29) rfl rfl (take_ofW HT_.out HW_.out (by kernel_rfl)) (fun _ _ _ h => h) (Or.inl ⟨by rfl, ?_⟩) hHeld ?_ ?_; rotate_left; (· rintro w1 hs1; obtain ⟨adI, eI, xI_0, xI_1, xI_2, xI_3, xI_4, xI_5, xI_6, xI_7, xI_8, xI_9, xI_10, xI_11, xI_12, xI_13, xI_14, xI_15⟩ := at_T39 (Kd.C_below HR.out hs1) i PI.out.1 PI.out.2; obtain ⟨adK, eK, xK_0, xK_1, xK_2, xK_3, xK_4, xK_5, xK_6, xK_7, xK_8, xK_9, xK_10, xK_11, xK_12, xK_13, xK_14, xK_15⟩ := at_T39 (Kd.C_below HR.out hs1) k PK.out.1 PK.out.2; obtain rfl : ad = adI := (by injection eI); obtain rfl : ad = adK := (by injection eK); clear hs1; go_simp; with_reducible rfl); rotate_left; (· simp only [Act.put, List.setIfInBounds_toArray, List.set_cons_zero, List.set_cons_succ, i64_w, i32_w]; rfl)
                              refine pY 29 (some 106) (ar 50 30) HT_ (h := ?_)
                              refine pY 30 (some 107) (ar 50 31) HT_ (h := ?_)
                              refine pY 31 (some 108) (ar 50 32) HT_ (h := ?_)
                              refine pY 32 (some 109) (ar 50 33) HT_ (h := ?_)
                              refine take_ (i := 33) (N := (some 110)) (v := ?_) (a' := ?_) (ar 50 34) rfl rfl (take_ofW HT_.out HW_.out (by kernel_rfl)) (fun _ _ _ h => h) (Or.inl ⟨by rfl, ?_⟩) hHeld ?_ ?_; rotate_left; (· rintro w1 hs1; obtain ⟨adI, eI, xI_0, xI_1, xI_2, xI_3, xI_4, xI_5, xI_6, xI_7, xI_8, xI_9, xI_10, xI_11, xI_12, xI_13, xI_14, xI_15⟩ := at_T39 (Kd.C_below HR.out hs1) i PI.out.1 PI.out.2; obtain ⟨adK, eK, xK_0, xK_1, xK_2, xK_3, xK_4, xK_5, xK_6, xK_7, xK_8, xK_9, xK_10, xK_11, xK_12, xK_13, xK_14, xK_15⟩ := at_T39 (Kd.C_below HR.out hs1) k PK.out.1 PK.out.2; obtain rfl : ad = adI := (by injection eI); obtain rfl : ad = adK := (by injection eK); clear hs1; go_simp; with_reducible rfl); rotate_left; (· simp only [Act.put, List.setIfInBounds_toArray, List.set_cons_zero, List.set_cons_succ, i64_w, i32_w]; rfl)
                              refine pY 34 (some 111) (ar 50 35) HT_ (h := ?_)
                              refine pY 35 (some 112) (ar 50 36) HT_ (h := ?_)
                              refine pY 36 (some 113) (ar 50 37) HT_ (h := ?_)
                              refine sY 37 (some 114) (ar 50 38) HT_ (h := ?_)
                              refine sY 38 (some 115) (ar 50 39) HT_ (h := ?_)
                              refine sY 39 (some 116) (ar 50 40) HT_ (h := ?_)
                              refine sY 40 (some 117) (ar 50 41) HT_ (h := ?_)
                              refine sY 41 (some 118) (ar 50 42) HT_ (h := ?_)
                              refine sY 42 (some 119) (ar 50 43) HT_ (h := ?_)
                              refine sY 43 (some 120) (ar 50 44) HT_ (h := ?_)
                              refine sY 44 (some 121) (ar 50 45) HT_ (h := ?_)
                              refine sY 45 (some 122) (ar 50 46) HT_ (h := ?_)
                              refine sY 46 (some 123) (ar 50 47) HT_ (h := ?_)
                              refine sY 47 (some 124) (ar 50 48) HT_ (h := ?_)
                              refine pY 48 (some 125) (ar 50 49) HT_ (h := ?_)
                              refine pY 49 (some 126) (ar 50 50) HT_ (h := ?_)
                              refine done_ (done_of HT_.out (by kernel_rfl)) ?_
                              try go_wp2
                              go_meet
                              case rel => exact ⟨_, rfl, HBAD, HB⟩
                          · have hbad : bad3 l i k = decide ((rd_T39 l k).f1 ≥ (rd_T39 l i).f1) := by simp [bad3, ha, hki, hcl, he]
                            have HBAD := Lib.hid hbad
                            clear hbad
                            have he' : decide ((rd_T39 l k).f6 ≥ (rd_T39 l i).f5) = false := decide_eq_false he
                            clear ha ha' hki hcl he
                            have PI := Lib.hid (show 0 ≤ i ∧ i < (l.length : Int) by omega)
                            have pI := eq_true PI.out.1
                            have qI := eq_true PI.out.2
                            have PK := Lib.hid (show 0 ≤ k ∧ k < (l.length : Int) by omega)
                            have pK := eq_true PK.out.1
                            have qK := eq_true PK.out.2
                            clear i0 i1 hlt k0 hk hkn
                            as_aux_lemma =>
                              obtain ⟨ad, eA, -⟩ := at_T39 HR.out i PI.out.1 PI.out.2
                              cases eA
                              refine start_ (n := 50) (S := fun w1 => Below w.heap.size w w1) (ds := []) (ar 50 0) (by kernel_rfl) rfl rfl (below_drew1 HB.out) (fun hHeld => ?_); refine with_tabW rchk.tab11 rchk.bits11 (fun HT_ HW_ => ?_)
                              replace HB := Lib.hid (below_drew1 HB.out)
                              generalize wc.drew = wz at HB hHeld ⊢
                              refine pY 0 (some 77) (ar 50 1) HT_ (h := ?_)
                              refine pY 1 (some 78) (ar 50 2) HT_ (h := ?_)
                              refine pY 2 (some 79) (ar 50 3) HT_ (h := ?_)
                              refine pY 3 (some 80) (ar 50 4) HT_ (h := ?_)
                              refine pY 4 (some 81) (ar 50 5) HT_ (h := ?_)
                              refine pY 5 (some 82) (ar 50 6) HT_ (h := ?_)
                              refine pY 6 (some 83) (ar 50 7) HT_ (h := ?_)
                              refine pY 7 (some 84) (ar 50 8) HT_ (h := ?_)
                              refine take_ (i := 8) (N := (some 85)) (v := ?_) (a' := ?_) (ar 50 9) rfl rfl (take_ofW HT_.out HW_.out (by kernel_rfl)) (fun _ _ _ h => h) (Or.inl ⟨by rfl, ?_⟩) hHeld ?_ ?_; rotate_left; (· rintro w1 hs1; obtain ⟨adI, eI, xI_0, xI_1, xI_2, xI_3, xI_4, xI_5, xI_6, xI_7, xI_8, xI_9, xI_10, xI_11, xI_12, xI_13, xI_14, xI_15⟩ := at_T39 (Kd.C_below HR.out hs1) i PI.out.1 PI.out.2; obtain ⟨adK, eK, xK_0, xK_1, xK_2, xK_3, xK_4, xK_5, xK_6, xK_7, xK_8, xK_9, xK_10, xK_11, xK_12, xK_13, xK_14, xK_15⟩ := at_T39 (Kd.C_below HR.out hs1) k PK.out.1 PK.out.2; obtain rfl : ad = adI := (by injection eI); obtain rfl : ad = adK := (by injection eK); clear hs1; go_simp; with_reducible rfl); rotate_left; (· simp only [Act.put, List.setIfInBounds_toArray, List.set_cons_zero, List.set_cons_succ, i64_w, i32_w]; rfl)
                              refine pY 9 (some 86) (ar 50 10) HT_ (h := ?_)
                              refine pY 10 (some 87) (ar 50 11) HT_ (h := ?_)
                              refine pY 11 (some 88) (ar 50 12) HT_ (h := ?_)
                              refine pY 12 (some 89) (ar 50 13) HT_ (h := ?_)
                              refine take_ (i := 13) (N := (some 90)) (v := ?_) (a' := ?_) (ar 50 14) rfl rfl (take_ofW HT_.out HW_.out (by kernel_rfl)) (fun _ _ _ h => h) (Or.inl ⟨by rfl, ?_⟩) hHeld ?_ ?_; rotate_left; (· rintro w1 hs1; obtain ⟨adI, eI, xI_0, xI_1, xI_2, xI_3, xI_4, xI_5, xI_6, xI_7, xI_8, xI_9, xI_10, xI_11, xI_12, xI_13, xI_14, xI_15⟩ := at_T39 (Kd.C_below HR.out hs1) i PI.out.1 PI.out.2; obtain ⟨adK, eK, xK_0, xK_1, xK_2, xK_3, xK_4, xK_5, xK_6, xK_7, xK_8, xK_9, xK_10, xK_11, xK_12, xK_13, xK_14, xK_15⟩ := at_T39 (Kd.C_below HR.out hs1) k PK.out.1 PK.out.2; obtain rfl : ad = adI := (by injection eI); obtain rfl : ad = adK := (by injection eK); clear hs1; go_simp; with_reducible rfl); rotate_left; (· simp only [Act.put, List.setIfInBounds_toArray, List.set_cons_zero, List.set_cons_succ, i64_w, i32_w]; rfl)
                              refine pY 14 (some 91) (ar 50 15) HT_ (h := ?_)
                              refine pY 15 (some 92) (ar 50 16) HT_ (h := ?_)
                              refine pY 16 (some 93) (ar 50 17) HT_ (h := ?_)
                              refine pY 17 (some 94) (ar 50 18) HT_ (h := ?_)
                              refine pY 18 (some 95) (ar 50 19) HT_ (h := ?_)
                              refine pY 19 (some 96) (ar 50 20) HT_ (h := ?_)
                              refine take_ (i := 20) (N := (some 97)) (v := ?_) (a' := ?_) (ar 50 21) rfl rfl (take_ofW HT_.out HW_.out (by kernel_rfl)) (fun _ _ _ h => h) (Or.inl ⟨by rfl, ?_⟩) hHeld ?_ ?_; rotate_left; (· rintro w1 hs1; obtain ⟨adI, eI, xI_0, xI_1, xI_2, xI_3, xI_4, xI_5, xI_6, xI_7, xI_8, xI_9, xI_10, xI_11, xI_12, xI_13, xI_14, xI_15⟩ := at_T39 (Kd.C_below HR.out hs1) i PI.out.1 PI.out.2; obtain ⟨adK, eK, xK_0, xK_1, xK_2, xK_3, xK_4, xK_5, xK_6, xK_7, xK_8, xK_9, xK_10, xK_11, xK_12, xK_13, xK_14, xK_15⟩ := at_T39 (Kd.C_below HR.out hs1) k PK.out.1 PK.out.2; obtain rfl : ad = adI := (by injection eI); obtain rfl : ad = adK := (by injection eK); clear hs1; go_simp; with_reducible rfl); rotate_left; (· simp only [Act.put, List.setIfInBounds_toArray, List.set_cons_zero, List.set_cons_succ, i64_w, i32_w]; rfl)
                              refine one_ (i := 21) (N := (some 98)) (ar 50 22) rfl rfl (one_of HT_.out (by kernel_rfl)) (by decide) (fun K hK => ?_); refine goes_ Try.func44 (by kernel_rfl) rfl #[.agg #[.int .i64 (rd_T39 l k).f0, .int .i64 (rd_T39 l k).f1, .bool (rd_T39 l k).f2, .string (rd_T39 l k).f3, .int .i64 (rd_T39 l k).f4.f0, .string (rd_T39 l k).f4.f1, .string (rd_T39 l k).f4.f2, .int .i64 (rd_T39 l k).f4.f3, .int .i64 (rd_T39 l k).f5, .int .i64 (rd_T39 l k).f6, .int .i64 (rd_T39 l k).f7.f0, .int .i64 (rd_T39 l k).f7.f1, .string (rd_T39 l k).f8.f0, .string (rd_T39 l k).f8.f1, .int .i64 (rd_T39 l k).f8.f2, .bool (rd_T39 l k).f9]] (by rfl) rfl rfl (by (try simp only [List.map_toArray, List.map_cons, List.map_nil]); first | done | rfl) ?_; with_reducible refine (HA.out _).mono ?_; rintro e w12 ⟨rfl, hb⟩; refine ⟨_, rfl, ?_⟩; replace HB := Lib.hid (below_step HB.out hb); clear hb; refine hK.out _ _ HB.out (fun hHeld => ?_); clear hK K; refine norm_ (a' := ?_) ?_ ?_; rotate_left; (· show Act.put _ (some 98) _ = _; simp only [Act.put, List.setIfInBounds_toArray, List.set_cons_zero, List.set_cons_succ, i64_w, i32_w]; rfl)
                              refine pY 22 (some 99) (ar 50 23) HT_ (h := ?_)
                              refine pY 23 (some 100) (ar 50 24) HT_ (h := ?_)
                              refine pY 24 (some 101) (ar 50 25) HT_ (h := ?_)
                              refine pY 25 (some 102) (ar 50 26) HT_ (h := ?_)
                              refine pY 26 (some 103) (ar 50 27) HT_ (h := ?_)
                              refine pY 27 (some 104) (ar 50 28) HT_ (h := ?_)
                              refine take_ (i := 28) (N := (some 105)) (v := ?_) (a' := ?_) (ar 50 29) rfl rfl (take_ofW HT_.out HW_.out (by kernel_rfl)) (fun _ _ _ h => h) (Or.inl ⟨by rfl, ?_⟩) hHeld ?_ ?_; rotate_left; (· rintro w1 hs1; obtain ⟨adI, eI, xI_0, xI_1, xI_2, xI_3, xI_4, xI_5, xI_6, xI_7, xI_8, xI_9, xI_10, xI_11, xI_12, xI_13, xI_14, xI_15⟩ := at_T39 (Kd.C_below HR.out hs1) i PI.out.1 PI.out.2; obtain ⟨adK, eK, xK_0, xK_1, xK_2, xK_3, xK_4, xK_5, xK_6, xK_7, xK_8, xK_9, xK_10, xK_11, xK_12, xK_13, xK_14, xK_15⟩ := at_T39 (Kd.C_below HR.out hs1) k PK.out.1 PK.out.2; obtain rfl : ad = adI := (by injection eI); obtain rfl : ad = adK := (by injection eK); clear hs1; go_simp; with_reducible rfl); rotate_left; (· simp only [Act.put, List.setIfInBounds_toArray, List.set_cons_zero, List.set_cons_succ, i64_w, i32_w]; rfl)
                              refine pY 29 (some 106) (ar 50 30) HT_ (h := ?_)
                              refine pY 30 (some 107) (ar 50 31) HT_ (h := ?_)
                              refine pY 31 (some 108) (ar 50 32) HT_ (h := ?_)
                              refine pY 32 (some 109) (ar 50 33) HT_ (h := ?_)
                              refine take_ (i := 33) (N := (some 110)) (v := ?_) (a' := ?_) (ar 50 34) rfl rfl (take_ofW HT_.out HW_.out (by kernel_rfl)) (fun _ _ _ h => h) (Or.inl ⟨by rfl, ?_⟩) hHeld ?_ ?_; rotate_left; (· rintro w1 hs1; obtain ⟨adI, eI, xI_0, xI_1, xI_2, xI_3, xI_4, xI_5, xI_6, xI_7, xI_8, xI_9, xI_10, xI_11, xI_12, xI_13, xI_14, xI_15⟩ := at_T39 (Kd.C_below HR.out hs1) i PI.out.1 PI.out.2; obtain ⟨adK, eK, xK_0, xK_1, xK_2, xK_3, xK_4, xK_5, xK_6, xK_7, xK_8, xK_9, xK_10, xK_11, xK_12, xK_13, xK_14, xK_15⟩ := at_T39 (Kd.C_below HR.out hs1) k PK.out.1 PK.out.2; obtain rfl : ad = adI := (by injection eI); obtain rfl : ad = adK := (by injection eK); clear hs1; go_simp; with_reducible rfl); rotate_left; (· simp only [Act.put, List.setIfInBounds_toArray, List.set_cons_zero, List.set_cons_succ, i64_w, i32_w]; rfl)
                              refine pY 34 (some 111) (ar 50 35) HT_ (h := ?_)
                              refine pY 35 (some 112) (ar 50 36) HT_ (h := ?_)
                              refine pY 36 (some 113) (ar 50 37) HT_ (h := ?_)
                              refine pY 37 (some 114) (ar 50 38) HT_ (h := ?_)
                              refine pY 38 (some 115) (ar 50 39) HT_ (h := ?_)
                              refine pY 39 (some 116) (ar 50 40) HT_ (h := ?_)
                              refine pY 40 (some 117) (ar 50 41) HT_ (h := ?_)
                              refine take_ (i := 41) (N := (some 118)) (v := ?_) (a' := ?_) (ar 50 42) rfl rfl (take_ofW HT_.out HW_.out (by kernel_rfl)) (fun _ _ _ h => h) (Or.inl ⟨by rfl, ?_⟩) hHeld ?_ ?_; rotate_left; (· rintro w1 hs1; obtain ⟨adI, eI, xI_0, xI_1, xI_2, xI_3, xI_4, xI_5, xI_6, xI_7, xI_8, xI_9, xI_10, xI_11, xI_12, xI_13, xI_14, xI_15⟩ := at_T39 (Kd.C_below HR.out hs1) i PI.out.1 PI.out.2; obtain ⟨adK, eK, xK_0, xK_1, xK_2, xK_3, xK_4, xK_5, xK_6, xK_7, xK_8, xK_9, xK_10, xK_11, xK_12, xK_13, xK_14, xK_15⟩ := at_T39 (Kd.C_below HR.out hs1) k PK.out.1 PK.out.2; obtain rfl : ad = adI := (by injection eI); obtain rfl : ad = adK := (by injection eK); clear hs1; go_simp; with_reducible rfl); rotate_left; (· simp only [Act.put, List.setIfInBounds_toArray, List.set_cons_zero, List.set_cons_succ, i64_w, i32_w]; rfl)
                              refine pY 42 (some 119) (ar 50 43) HT_ (h := ?_)
                              refine pY 43 (some 120) (ar 50 44) HT_ (h := ?_)
                              refine pY 44 (some 121) (ar 50 45) HT_ (h := ?_)
                              refine pY 45 (some 122) (ar 50 46) HT_ (h := ?_)
                              refine take_ (i := 46) (N := (some 123)) (v := ?_) (a' := ?_) (ar 50 47) rfl rfl (take_ofW HT_.out HW_.out (by kernel_rfl)) (fun _ _ _ h => h) (Or.inl ⟨by rfl, ?_⟩) hHeld ?_ ?_; rotate_left; (· rintro w1 hs1; obtain ⟨adI, eI, xI_0, xI_1, xI_2, xI_3, xI_4, xI_5, xI_6, xI_7, xI_8, xI_9, xI_10, xI_11, xI_12, xI_13, xI_14, xI_15⟩ := at_T39 (Kd.C_below HR.out hs1) i PI.out.1 PI.out.2; obtain ⟨adK, eK, xK_0, xK_1, xK_2, xK_3, xK_4, xK_5, xK_6, xK_7, xK_8, xK_9, xK_10, xK_11, xK_12, xK_13, xK_14, xK_15⟩ := at_T39 (Kd.C_below HR.out hs1) k PK.out.1 PK.out.2; obtain rfl : ad = adI := (by injection eI); obtain rfl : ad = adK := (by injection eK); clear hs1; go_simp; with_reducible rfl); rotate_left; (· simp only [Act.put, List.setIfInBounds_toArray, List.set_cons_zero, List.set_cons_succ, i64_w, i32_w]; rfl)
                              refine pY 47 (some 124) (ar 50 48) HT_ (h := ?_)
                              refine pY 48 (some 125) (ar 50 49) HT_ (h := ?_)
                              refine pY 49 (some 126) (ar 50 50) HT_ (h := ?_)
                              refine done_ (done_of HT_.out (by kernel_rfl)) ?_
                              try go_wp2
                              go_meet
                              case rel => exact ⟨_, rfl, HBAD, HB⟩
                      · have hbad : bad3 l i k = false := by simp [bad3, hcl]
                        have HBAD := Lib.hid hbad
                        clear hbad
                        have hcl' : ((rd_T39 l k).f0 == (rd_T39 l i).f0) = false := by simpa using hcl
                        clear hki hcl
                        have PI := Lib.hid (show 0 ≤ i ∧ i < (l.length : Int) by omega)
                        have pI := eq_true PI.out.1
                        have qI := eq_true PI.out.2
                        have PK := Lib.hid (show 0 ≤ k ∧ k < (l.length : Int) by omega)
                        have pK := eq_true PK.out.1
                        have qK := eq_true PK.out.2
                        clear i0 i1 hlt k0 hk hkn
                        as_aux_lemma =>
                          obtain ⟨ad, eA, -⟩ := at_T39 HR.out i PI.out.1 PI.out.2
                          cases eA
                          refine start_ (n := 50) (S := fun w1 => Below w.heap.size w w1) (ds := []) (ar 50 0) (by kernel_rfl) rfl rfl (below_drew1 HB.out) (fun hHeld => ?_); refine with_tabW rchk.tab11 rchk.bits11 (fun HT_ HW_ => ?_)
                          replace HB := Lib.hid (below_drew1 HB.out)
                          generalize wc.drew = wz at HB hHeld ⊢
                          refine pY 0 (some 77) (ar 50 1) HT_ (h := ?_)
                          refine pY 1 (some 78) (ar 50 2) HT_ (h := ?_)
                          refine pY 2 (some 79) (ar 50 3) HT_ (h := ?_)
                          refine pY 3 (some 80) (ar 50 4) HT_ (h := ?_)
                          refine pY 4 (some 81) (ar 50 5) HT_ (h := ?_)
                          refine pY 5 (some 82) (ar 50 6) HT_ (h := ?_)
                          refine pY 6 (some 83) (ar 50 7) HT_ (h := ?_)
                          refine pY 7 (some 84) (ar 50 8) HT_ (h := ?_)
                          refine take_ (i := 8) (N := (some 85)) (v := ?_) (a' := ?_) (ar 50 9) rfl rfl (take_ofW HT_.out HW_.out (by kernel_rfl)) (fun _ _ _ h => h) (Or.inl ⟨by rfl, ?_⟩) hHeld ?_ ?_; rotate_left; (· rintro w1 hs1; obtain ⟨adI, eI, xI_0, xI_1, xI_2, xI_3, xI_4, xI_5, xI_6, xI_7, xI_8, xI_9, xI_10, xI_11, xI_12, xI_13, xI_14, xI_15⟩ := at_T39 (Kd.C_below HR.out hs1) i PI.out.1 PI.out.2; obtain ⟨adK, eK, xK_0, xK_1, xK_2, xK_3, xK_4, xK_5, xK_6, xK_7, xK_8, xK_9, xK_10, xK_11, xK_12, xK_13, xK_14, xK_15⟩ := at_T39 (Kd.C_below HR.out hs1) k PK.out.1 PK.out.2; obtain rfl : ad = adI := (by injection eI); obtain rfl : ad = adK := (by injection eK); clear hs1; go_simp; with_reducible rfl); rotate_left; (· simp only [Act.put, List.setIfInBounds_toArray, List.set_cons_zero, List.set_cons_succ, i64_w, i32_w]; rfl)
                          refine pY 9 (some 86) (ar 50 10) HT_ (h := ?_)
                          refine pY 10 (some 87) (ar 50 11) HT_ (h := ?_)
                          refine pY 11 (some 88) (ar 50 12) HT_ (h := ?_)
                          refine pY 12 (some 89) (ar 50 13) HT_ (h := ?_)
                          refine take_ (i := 13) (N := (some 90)) (v := ?_) (a' := ?_) (ar 50 14) rfl rfl (take_ofW HT_.out HW_.out (by kernel_rfl)) (fun _ _ _ h => h) (Or.inl ⟨by rfl, ?_⟩) hHeld ?_ ?_; rotate_left; (· rintro w1 hs1; obtain ⟨adI, eI, xI_0, xI_1, xI_2, xI_3, xI_4, xI_5, xI_6, xI_7, xI_8, xI_9, xI_10, xI_11, xI_12, xI_13, xI_14, xI_15⟩ := at_T39 (Kd.C_below HR.out hs1) i PI.out.1 PI.out.2; obtain ⟨adK, eK, xK_0, xK_1, xK_2, xK_3, xK_4, xK_5, xK_6, xK_7, xK_8, xK_9, xK_10, xK_11, xK_12, xK_13, xK_14, xK_15⟩ := at_T39 (Kd.C_below HR.out hs1) k PK.out.1 PK.out.2; obtain rfl : ad = adI := (by injection eI); obtain rfl : ad = adK := (by injection eK); clear hs1; go_simp; with_reducible rfl); rotate_left; (· simp only [Act.put, List.setIfInBounds_toArray, List.set_cons_zero, List.set_cons_succ, i64_w, i32_w]; rfl)
                          refine pY 14 (some 91) (ar 50 15) HT_ (h := ?_)
                          refine pY 15 (some 92) (ar 50 16) HT_ (h := ?_)
                          refine pY 16 (some 93) (ar 50 17) HT_ (h := ?_)
                          refine sY 17 (some 94) (ar 50 18) HT_ (h := ?_)
                          refine sY 18 (some 95) (ar 50 19) HT_ (h := ?_)
                          refine sY 19 (some 96) (ar 50 20) HT_ (h := ?_)
                          refine sY 20 (some 97) (ar 50 21) HT_ (h := ?_)
                          refine sY 21 (some 98) (ar 50 22) HT_ (h := ?_)
                          refine sY 22 (some 99) (ar 50 23) HT_ (h := ?_)
                          refine sY 23 (some 100) (ar 50 24) HT_ (h := ?_)
                          refine sY 24 (some 101) (ar 50 25) HT_ (h := ?_)
                          refine sY 25 (some 102) (ar 50 26) HT_ (h := ?_)
                          refine sY 26 (some 103) (ar 50 27) HT_ (h := ?_)
                          refine sY 27 (some 104) (ar 50 28) HT_ (h := ?_)
                          refine sY 28 (some 105) (ar 50 29) HT_ (h := ?_)
                          refine sY 29 (some 106) (ar 50 30) HT_ (h := ?_)
                          refine sY 30 (some 107) (ar 50 31) HT_ (h := ?_)
                          refine sY 31 (some 108) (ar 50 32) HT_ (h := ?_)
                          refine sY 32 (some 109) (ar 50 33) HT_ (h := ?_)
                          refine sY 33 (some 110) (ar 50 34) HT_ (h := ?_)
                          refine sY 34 (some 111) (ar 50 35) HT_ (h := ?_)
                          refine sY 35 (some 112) (ar 50 36) HT_ (h := ?_)
                          refine sY 36 (some 113) (ar 50 37) HT_ (h := ?_)
                          refine sY 37 (some 114) (ar 50 38) HT_ (h := ?_)
                          refine sY 38 (some 115) (ar 50 39) HT_ (h := ?_)
                          refine sY 39 (some 116) (ar 50 40) HT_ (h := ?_)
                          refine sY 40 (some 117) (ar 50 41) HT_ (h := ?_)
                          refine sY 41 (some 118) (ar 50 42) HT_ (h := ?_)
                          refine sY 42 (some 119) (ar 50 43) HT_ (h := ?_)
                          refine sY 43 (some 120) (ar 50 44) HT_ (h := ?_)
                          refine sY 44 (some 121) (ar 50 45) HT_ (h := ?_)
                          refine sY 45 (some 122) (ar 50 46) HT_ (h := ?_)
                          refine sY 46 (some 123) (ar 50 47) HT_ (h := ?_)
                          refine sY 47 (some 124) (ar 50 48) HT_ (h := ?_)
                          refine sY 48 (some 125) (ar 50 49) HT_ (h := ?_)
                          refine pY 49 (some 126) (ar 50 50) HT_ (h := ?_)
                          refine done_ (done_of HT_.out (by kernel_rfl)) ?_
                          try go_wp2
                          go_meet
                          case rel => exact ⟨_, rfl, HBAD, HB⟩
                    · have hbad : bad3 l i k = false := by simp [bad3, hki]
                      have HBAD := Lib.hid hbad
                      clear hbad
                      have hki' : decide (k < i) = false := decide_eq_false hki
                      clear hki
                      clear i0 i1 hlt k0 hk hkn
                      as_aux_lemma =>
                        refine start_ (n := 50) (S := fun w1 => Below w.heap.size w w1) (ds := []) (ar 50 0) (by kernel_rfl) rfl rfl (below_drew1 HB.out) (fun hHeld => ?_); refine with_tabW rchk.tab11 rchk.bits11 (fun HT_ HW_ => ?_)
                        replace HB := Lib.hid (below_drew1 HB.out)
                        generalize wc.drew = wz at HB hHeld ⊢
                        refine pY 0 (some 77) (ar 50 1) HT_ (h := ?_)
                        refine pY 1 (some 78) (ar 50 2) HT_ (h := ?_)
                        refine pY 2 (some 79) (ar 50 3) HT_ (h := ?_)
                        refine pY 3 (some 80) (ar 50 4) HT_ (h := ?_)
                        refine sY 4 (some 81) (ar 50 5) HT_ (h := ?_)
                        refine sY 5 (some 82) (ar 50 6) HT_ (h := ?_)
                        refine sY 6 (some 83) (ar 50 7) HT_ (h := ?_)
                        refine sY 7 (some 84) (ar 50 8) HT_ (h := ?_)
                        refine sY 8 (some 85) (ar 50 9) HT_ (h := ?_)
                        refine sY 9 (some 86) (ar 50 10) HT_ (h := ?_)
                        refine sY 10 (some 87) (ar 50 11) HT_ (h := ?_)
                        refine sY 11 (some 88) (ar 50 12) HT_ (h := ?_)
                        refine sY 12 (some 89) (ar 50 13) HT_ (h := ?_)
                        refine sY 13 (some 90) (ar 50 14) HT_ (h := ?_)
                        refine sY 14 (some 91) (ar 50 15) HT_ (h := ?_)
                        refine pY 15 (some 92) (ar 50 16) HT_ (h := ?_)
                        refine pY 16 (some 93) (ar 50 17) HT_ (h := ?_)
                        refine sY 17 (some 94) (ar 50 18) HT_ (h := ?_)
                        refine sY 18 (some 95) (ar 50 19) HT_ (h := ?_)
                        refine sY 19 (some 96) (ar 50 20) HT_ (h := ?_)
                        refine sY 20 (some 97) (ar 50 21) HT_ (h := ?_)
                        refine sY 21 (some 98) (ar 50 22) HT_ (h := ?_)
                        refine sY 22 (some 99) (ar 50 23) HT_ (h := ?_)
                        refine sY 23 (some 100) (ar 50 24) HT_ (h := ?_)
                        refine sY 24 (some 101) (ar 50 25) HT_ (h := ?_)
                        refine sY 25 (some 102) (ar 50 26) HT_ (h := ?_)
                        refine sY 26 (some 103) (ar 50 27) HT_ (h := ?_)
                        refine sY 27 (some 104) (ar 50 28) HT_ (h := ?_)
                        refine sY 28 (some 105) (ar 50 29) HT_ (h := ?_)
                        refine sY 29 (some 106) (ar 50 30) HT_ (h := ?_)
                        refine sY 30 (some 107) (ar 50 31) HT_ (h := ?_)
                        refine sY 31 (some 108) (ar 50 32) HT_ (h := ?_)
                        refine sY 32 (some 109) (ar 50 33) HT_ (h := ?_)
                        refine sY 33 (some 110) (ar 50 34) HT_ (h := ?_)
                        refine sY 34 (some 111) (ar 50 35) HT_ (h := ?_)
                        refine sY 35 (some 112) (ar 50 36) HT_ (h := ?_)
                        refine sY 36 (some 113) (ar 50 37) HT_ (h := ?_)
                        refine sY 37 (some 114) (ar 50 38) HT_ (h := ?_)
                        refine sY 38 (some 115) (ar 50 39) HT_ (h := ?_)
                        refine sY 39 (some 116) (ar 50 40) HT_ (h := ?_)
                        refine sY 40 (some 117) (ar 50 41) HT_ (h := ?_)
                        refine sY 41 (some 118) (ar 50 42) HT_ (h := ?_)
                        refine sY 42 (some 119) (ar 50 43) HT_ (h := ?_)
                        refine sY 43 (some 120) (ar 50 44) HT_ (h := ?_)
                        refine sY 44 (some 121) (ar 50 45) HT_ (h := ?_)
                        refine sY 45 (some 122) (ar 50 46) HT_ (h := ?_)
                        refine sY 46 (some 123) (ar 50 47) HT_ (h := ?_)
                        refine sY 47 (some 124) (ar 50 48) HT_ (h := ?_)
                        refine sY 48 (some 125) (ar 50 49) HT_ (h := ?_)
                        refine pY 49 (some 126) (ar 50 50) HT_ (h := ?_)
                        refine done_ (done_of HT_.out (by kernel_rfl)) ?_
                        try go_wp2
                        go_meet
                        case rel => exact ⟨_, rfl, HBAD, HB⟩
                  case rest =>
                    obtain ⟨b, rfl, H3, HB4⟩ := hcut
                    clear HB3
                    cases b with
                    | true =>
                      have HX := Lib.hid (refF_bad i i0 hlt (fun h => by have h3 := (h.2 k k0 hkn).2; rw [H3.out] at h3; exact absurd h3 (by decide)))
                      go_wp2
                      go_ret
                      exact ⟨ret_i HX.out.symm, HB4.out⟩
                    | false =>
                      go_wp2
                      go_roundw
                      case rel => exact ⟨k + 1, by first | rfl | go_num, ⟨by omega, by omega, Lib.hid (okIn_succ HI.out H2.out H3.out)⟩, HB4⟩
                      case measure => simp [intOf]; omega
            · have c2 : decide (k < (l.length : Int)) = false := decide_eq_false hkn
              have HE := Lib.hid (show k = (l.length : Int) by omega)
              go_wp2
              go_roundw
              case rel => exact ⟨i + 1, by first | rfl | go_num, ⟨by omega, by omega, Lib.hid (okTo_succ HO.out H1.out (HE.out ▸ HI.out))⟩, HB⟩
              case measure => simp [intOf]; omega
    · have c1 : decide (i < (l.length : Int)) = false := decide_eq_false hlt
      have HX := Lib.hid (refF_ok ((show i = (l.length : Int) by omega) ▸ HO.out))
      go_wp2
      go_ret
      exact ⟨ret_i HX.out.symm, HB.out⟩
end Go.Proofs.Ytbakmkoppieelaa.PLinearChecks

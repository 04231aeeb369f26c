/- What is proved: whether places are an order of a history, of the reference; the conditions stand in the theorem. -/
import Derived.Test.YtbakmkoppieelaaLHb
namespace Go.Proofs.Ytbakmkoppieelaa.PLinearChecks
open Go.RowKit Go.Proofs.YtbakmkoppieelaaW.PrintWords Go.Proofs.YtbakmkoppieelaaW.PrintLast Go.Proofs.YtbakmkoppieelaaW.PrintMore
set_option linter.unusedVariables false
set_option linter.unusedSimpArgs false
/-- Is the i-th place of an order right? -/
def isoB (l : List S39) (xs : List Int) (i : Int) : Bool := !(decide (ix xs i < 0) || (decide (ix xs i ≥ (l.length : Int)) || (hasI (xs.take i.toNat) (ix xs i) || ((rd_T39 l (ix xs i)).f2 && !ansB (rd_T39 l (ix xs i))))))
def isoI (l : List S39) (xs : List Int) : Bool := (List.range xs.length).all fun i => isoB l xs (i : Int)
theorem isoI_no {l : List S39} {xs : List Int} {i : Int} (h0 : 0 ≤ i) (h1 : i < xs.length) (h : isoB l xs i = false) : isoI l xs = false := by
  rw [Bool.eq_false_iff]
  intro h2
  unfold isoI at h2
  rw [List.all_eq_true] at h2
  have h3 := h2 i.toNat (List.mem_range.mpr (by omega))
  rw [show ((i.toNat : Nat) : Int) = i by omega, h] at h3
  cases h3
theorem isoI_yes {l : List S39} {xs : List Int} (h : ∀ j : Nat, (j : Int) < xs.length → isoB l xs (j : Int) = true) : isoI l xs = true := by
  unfold isoI
  rw [List.all_eq_true]
  exact fun k hk => h k (by have := List.mem_range.mp hk; omega)
def iso.T4 : Bool × List (List Nat × List Nat) := (true, [([], []), ([], []), ([0, 1], [0, 1]), ([2], [2]), ([3], [3]), ([4], [4]), ([5], [5]), ([5], [5]), ([6, 7, 5], [5, 6, 7]), ([8, 5], [5, 8]), ([5], [5]), ([10, 5], [5, 10]), ([9, 11, 5], [5, 9, 11]), ([5, 12], [5, 12]), ([13, 5], [13]), ([14], [14]), ([14], [14]), ([15, 16, 14], [14, 15, 16]), ([14], [14]), ([14], [14]), ([18, 19, 14], [14, 18, 19]), ([20, 14], [14, 20]), ([17, 21, 14, 14], [14, 17, 21]), ([14, 22], [14, 22]), ([23, 22], [23]), ([24], [24]), ([24], [24]), ([24], [24]), ([26, 27, 24], [24, 26, 27]), ([28, 24], [24, 28]), ([25, 29, 24], [24, 25, 29]), ([30, 24], [24, 30]), ([31, 24], [24, 31]), ([32, 24, 24], [24, 32]), ([33], [33]), ([33], [33]), ([33], [33]), ([35, 36, 33], [33, 35, 36]), ([37, 33], [33, 37]), ([34, 38, 33], [33, 34, 38]), ([39, 33], [33, 39]), ([40, 33, 33], [33, 40]), ([41, 33], [33, 41]), ([33, 42, 24], [24, 33, 42]), ([24, 43], [24, 43])])
def iso.B4 : List Nat := [0, 0, 3, 7, 15, 31, 63, 63, 255, 511, 63, 1087, 4095, 8191, 16383, 32767, 32767, 131071, 32767, 32767, 819199, 1867775, 4194303, 8388607, 16777215, 33554431, 33554431, 33554431, 234881023, 503316479, 1073741823, 2147483647, 4294967295, 8589934591, 17179869183, 17179869183, 17179869183, 120259084287, 257698037759, 549755813887, 1099511627775, 2199023255551, 4398046511103, 8796093022207, 17592186044415]
theorem iso.tab4 : rtab .any (opsOf Try.f61 4) = iso.T4 := by kernel_rfl
theorem iso.bits4 : waitsOk iso.T4.2 iso.B4 = true := by kernel_rfl
set_option maxRecDepth 100000 in
set_option maxHeartbeats 8000000 in
theorem isorder_any (w : World) (A Ax : Option Addr) (c cx : Nat) (l : List S39) (xs : List Int) (hr : Kd.C k39 w A l.length l) (hx : Kd.C (Kd.int .i64) w Ax xs.length xs) (hcx : xs.length ≤ cx) (hn : l.length ≤ 1000000000000) (hnx : xs.length ≤ 100000000000000) :
    Calls Try.prog 61 #[.slice A l.length c, .slice Ax xs.length cx] w fun e w' => e = .returned (.bool (isoI l xs)) ∧ Below w.heap.size w w' := by
  have HR := Lib.hid hr
  have HX := Lib.hid hx
  have HN := Lib.hid (And.intro hn hnx)
  have HCX := Lib.hid hcx
  clear hr hx hcx hn hnx
  go_enter Try.func61, Try.ntmps61
  go_wp2
  go_loopw [5] (fun v5 wr => ∃ i : Int, v5 = .int .i64 i ∧ (0 ≤ i ∧ i ≤ (xs.length : Int)) ∧ RowKit.Hid (∀ j : Nat, (j : Int) < i → isoB l xs (j : Int) = true) ∧ RowKit.Hid (Below w.heap.size w wr)) (fun v5 _ => ((xs.length : Int) - intOf v5).toNat)
  case atStart => exact ⟨0, rfl, ⟨by omega, by omega⟩, Lib.hid (fun j hj => by omega), Lib.hid (Below.refl _ _)⟩
  case round =>
    obtain ⟨i, rfl, ⟨i0, i1⟩, HJ, HB⟩ := hrel
    by_cases hlt : i < (xs.length : Int)
    · have c1 : decide (i < (xs.length : Int)) = true := decide_eq_true hlt
      have PI := Lib.hid (show 0 ≤ i ∧ i < (xs.length : Int) ∧ i.toNat ≤ xs.length by omega)
      have pI := eq_true i0
      have qI := eq_true hlt
      have sI := eq_true (show i ≤ (cx : Int) by have := HCX.out; omega)
      have wi : wrap64 (i + 1) = i + 1 := by have h2 := HN.out; unfold wrap64; omega
      have wi2 : IntKind.i64.wrap (i + 1) = i + 1 := (i64_w _).trans wi
      obtain ⟨adx, eAx, -⟩ := int_at HX.out i PI.out.1 PI.out.2.1
      cases eAx
      obtain ⟨x, hxx⟩ : ∃ x, ix xs i = x := ⟨_, rfl⟩
      have EX := Lib.hid hxx
      have HTK := Lib.hid (show (xs.take i.toNat).length = i.toNat by rw [List.length_take]; omega)
      have CT := Lib.hid (show Kd.C (Kd.int .i64) w (some adx) (xs.take i.toNat).length (xs.take i.toNat) by exact Kd.C_take HX.out (m := i.toNat) (by omega))
      have HSTEP := Lib.hid (fun (h : isoB l xs i = true) (j : Nat) (hj : (j : Int) < i + 1) => (show isoB l xs (j : Int) = true by
        by_cases e : (j : Int) = i
        · rw [e]; exact h
        · exact HJ.out j (by omega)))
      clear i0 i1 hlt
      by_cases hx0 : x < 0
      · have d0 : decide (x < 0) = true := decide_eq_true hx0
        have HF := Lib.hid (isoI_no PI.out.1 PI.out.2.1 (show isoB l xs i = false by unfold isoB; rw [hxx, d0]; rfl))
        clear hxx hx0
        go_upto_region 4 with (fail)
        refine start_ (n := 45) (S := fun w1 => Below w.heap.size w w1) (ds := []) (ar 45 0) (by kernel_rfl) rfl rfl (below_drew1 HB.out) (fun hHeld => ?_); refine with_tabW iso.tab4 iso.bits4 (fun HT_ HW_ => ?_)
        replace HB := Lib.hid (below_drew1 HB.out)
        generalize wr.drew = wz at HB hHeld ⊢
        refine pY 0 (some 12) (ar 45 1) HT_ (h := ?_)
        refine pY 1 (some 13) (ar 45 2) HT_ (h := ?_)
        refine pY 2 (some 14) (ar 45 3) HT_ (h := ?_)
        refine take_ (i := 3) (N := (some 15)) (v := ?_) (a' := ?_) (ar 45 4) rfl rfl (take_ofW HT_.out HW_.out (by kernel_rfl)) (fun _ _ _ h => h) (Or.inl ⟨by rfl, ?_⟩) hHeld ?_ ?_; rotate_left; (· rintro w1 hs1; have kc := int_at' (Kd.C_below HX.out hs1) i PI.out.1 PI.out.2.1; rw [EX.out] at kc; go_simp; with_reducible rfl); rotate_left; (· simp only [Act.put, List.setIfInBounds_toArray, List.set_cons_zero, List.set_cons_succ, i64_w, i32_w]; rfl)
        refine pY 4 (some 16) (ar 45 5) HT_ (h := ?_)
        refine pY 5 (some 17) (ar 45 6) HT_ (h := ?_)
        refine sY 6 (some 18) (ar 45 7) HT_ (h := ?_)
        refine sY 7 (some 19) (ar 45 8) HT_ (h := ?_)
        refine sY 8 (some 20) (ar 45 9) HT_ (h := ?_)
        refine sY 9 (some 21) (ar 45 10) HT_ (h := ?_)
        refine sY 10 (some 22) (ar 45 11) HT_ (h := ?_)
        refine sY 11 (some 23) (ar 45 12) HT_ (h := ?_)
        refine sY 12 (some 24) (ar 45 13) HT_ (h := ?_)
        refine pY 13 (some 25) (ar 45 14) HT_ (h := ?_)
        refine pY 14 (some 26) (ar 45 15) HT_ (h := ?_)
        refine sY 15 (some 27) (ar 45 16) HT_ (h := ?_)
        refine sY 16 (some 28) (ar 45 17) HT_ (h := ?_)
        refine sY 17 (some 29) (ar 45 18) HT_ (h := ?_)
        refine sY 18 (some 30) (ar 45 19) HT_ (h := ?_)
        refine sY 19 (some 31) (ar 45 20) HT_ (h := ?_)
        refine sY 20 (some 32) (ar 45 21) HT_ (h := ?_)
        refine sY 21 (some 33) (ar 45 22) HT_ (h := ?_)
        refine sY 22 (some 34) (ar 45 23) HT_ (h := ?_)
        refine pY 23 (some 35) (ar 45 24) HT_ (h := ?_)
        refine pY 24 (some 36) (ar 45 25) HT_ (h := ?_)
        refine sY 25 (some 37) (ar 45 26) HT_ (h := ?_)
        refine sY 26 (some 38) (ar 45 27) HT_ (h := ?_)
        refine sY 27 (some 39) (ar 45 28) HT_ (h := ?_)
        refine sY 28 (some 40) (ar 45 29) HT_ (h := ?_)
        refine sY 29 (some 41) (ar 45 30) HT_ (h := ?_)
        refine sY 30 (some 42) (ar 45 31) HT_ (h := ?_)
        refine sY 31 (some 43) (ar 45 32) HT_ (h := ?_)
        refine sY 32 (some 44) (ar 45 33) HT_ (h := ?_)
        refine sY 33 (some 45) (ar 45 34) HT_ (h := ?_)
        refine sY 34 (some 46) (ar 45 35) HT_ (h := ?_)
        refine sY 35 (some 47) (ar 45 36) HT_ (h := ?_)
        refine sY 36 (some 48) (ar 45 37) HT_ (h := ?_)
        refine sY 37 (some 49) (ar 45 38) HT_ (h := ?_)
        refine sY 38 (some 50) (ar 45 39) HT_ (h := ?_)
        refine sY 39 (some 51) (ar 45 40) HT_ (h := ?_)
        refine sY 40 (some 52) (ar 45 41) HT_ (h := ?_)
        refine sY 41 (some 53) (ar 45 42) HT_ (h := ?_)
        refine sY 42 (some 54) (ar 45 43) HT_ (h := ?_)
        refine sY 43 (some 55) (ar 45 44) HT_ (h := ?_)
        refine pY 44 (some 56) (ar 45 45) HT_ (h := ?_)
        refine done_ (done_of HT_.out (by kernel_rfl)) ?_
        go_wp2
        go_ret
        exact ⟨by rw [HF.out]; rfl, HB.out⟩
      · have d0 : decide (x < 0) = false := decide_eq_false hx0
        by_cases hx1 : x ≥ (l.length : Int)
        · have d1 : decide (x ≥ (l.length : Int)) = true := decide_eq_true hx1
          have d2 : decide ((l.length : Int) ≤ x) = true := decide_eq_true hx1
          have HF := Lib.hid (isoI_no PI.out.1 PI.out.2.1 (show isoB l xs i = false by unfold isoB; rw [hxx, d0, d1]; rfl))
          clear hxx hx0 hx1
          go_upto_region 4 with (fail)
          refine start_ (n := 45) (S := fun w1 => Below w.heap.size w w1) (ds := []) (ar 45 0) (by kernel_rfl) rfl rfl (below_drew1 HB.out) (fun hHeld => ?_); refine with_tabW iso.tab4 iso.bits4 (fun HT_ HW_ => ?_)
          replace HB := Lib.hid (below_drew1 HB.out)
          generalize wr.drew = wz at HB hHeld ⊢
          refine pY 0 (some 12) (ar 45 1) HT_ (h := ?_)
          refine pY 1 (some 13) (ar 45 2) HT_ (h := ?_)
          refine pY 2 (some 14) (ar 45 3) HT_ (h := ?_)
          refine take_ (i := 3) (N := (some 15)) (v := ?_) (a' := ?_) (ar 45 4) rfl rfl (take_ofW HT_.out HW_.out (by kernel_rfl)) (fun _ _ _ h => h) (Or.inl ⟨by rfl, ?_⟩) hHeld ?_ ?_; rotate_left; (· rintro w1 hs1; have kc := int_at' (Kd.C_below HX.out hs1) i PI.out.1 PI.out.2.1; rw [EX.out] at kc; go_simp; with_reducible rfl); rotate_left; (· simp only [Act.put, List.setIfInBounds_toArray, List.set_cons_zero, List.set_cons_succ, i64_w, i32_w]; rfl)
          refine pY 4 (some 16) (ar 45 5) HT_ (h := ?_)
          refine pY 5 (some 17) (ar 45 6) HT_ (h := ?_)
          refine pY 6 (some 18) (ar 45 7) HT_ (h := ?_)
          refine pY 7 (some 19) (ar 45 8) HT_ (h := ?_)
          refine pY 8 (some 20) (ar 45 9) HT_ (h := ?_)
          refine take_ (i := 9) (N := (some 21)) (v := ?_) (a' := ?_) (ar 45 10) rfl rfl (take_ofW HT_.out HW_.out (by kernel_rfl)) (fun _ _ _ h => h) (Or.inl ⟨by rfl, ?_⟩) hHeld ?_ ?_; rotate_left; (· rintro w1 hs1; have kc := int_at' (Kd.C_below HX.out hs1) i PI.out.1 PI.out.2.1; rw [EX.out] at kc; go_simp; with_reducible rfl); rotate_left; (· simp only [Act.put, List.setIfInBounds_toArray, List.set_cons_zero, List.set_cons_succ, i64_w, i32_w]; rfl)
          refine pY 10 (some 22) (ar 45 11) HT_ (h := ?_)
          refine pY 11 (some 23) (ar 45 12) HT_ (h := ?_)
          refine pY 12 (some 24) (ar 45 13) HT_ (h := ?_)
          refine pY 13 (some 25) (ar 45 14) HT_ (h := ?_)
          refine pY 14 (some 26) (ar 45 15) HT_ (h := ?_)
          refine sY 15 (some 27) (ar 45 16) HT_ (h := ?_)
          refine sY 16 (some 28) (ar 45 17) HT_ (h := ?_)
          refine sY 17 (some 29) (ar 45 18) HT_ (h := ?_)
          refine sY 18 (some 30) (ar 45 19) HT_ (h := ?_)
          refine sY 19 (some 31) (ar 45 20) HT_ (h := ?_)
          refine sY 20 (some 32) (ar 45 21) HT_ (h := ?_)
          refine sY 21 (some 33) (ar 45 22) HT_ (h := ?_)
          refine sY 22 (some 34) (ar 45 23) HT_ (h := ?_)
          refine pY 23 (some 35) (ar 45 24) HT_ (h := ?_)
          refine pY 24 (some 36) (ar 45 25) HT_ (h := ?_)
          refine sY 25 (some 37) (ar 45 26) HT_ (h := ?_)
          refine sY 26 (some 38) (ar 45 27) HT_ (h := ?_)
          refine sY 27 (some 39) (ar 45 28) HT_ (h := ?_)
          refine sY 28 (some 40) (ar 45 29) HT_ (h := ?_)
          refine sY 29 (some 41) (ar 45 30) HT_ (h := ?_)
          refine sY 30 (some 42) (ar 45 31) HT_ (h := ?_)
          refine sY 31 (some 43) (ar 45 32) HT_ (h := ?_)
          refine sY 32 (some 44) (ar 45 33) HT_ (h := ?_)
          refine sY 33 (some 45) (ar 45 34) HT_ (h := ?_)
          refine sY 34 (some 46) (ar 45 35) HT_ (h := ?_)
          refine sY 35 (some 47) (ar 45 36) HT_ (h := ?_)
          refine sY 36 (some 48) (ar 45 37) HT_ (h := ?_)
          refine sY 37 (some 49) (ar 45 38) HT_ (h := ?_)
          refine sY 38 (some 50) (ar 45 39) HT_ (h := ?_)
          refine sY 39 (some 51) (ar 45 40) HT_ (h := ?_)
          refine sY 40 (some 52) (ar 45 41) HT_ (h := ?_)
          refine sY 41 (some 53) (ar 45 42) HT_ (h := ?_)
          refine sY 42 (some 54) (ar 45 43) HT_ (h := ?_)
          refine sY 43 (some 55) (ar 45 44) HT_ (h := ?_)
          refine pY 44 (some 56) (ar 45 45) HT_ (h := ?_)
          refine done_ (done_of HT_.out (by kernel_rfl)) ?_
          go_wp2
          go_ret
          exact ⟨by rw [HF.out]; rfl, HB.out⟩
        · have d1 : decide (x ≥ (l.length : Int)) = false := decide_eq_false hx1
          have d2 : decide ((l.length : Int) ≤ x) = false := decide_eq_false hx1
          have PX := Lib.hid (show 0 ≤ x ∧ x < (l.length : Int) by omega)
          have pX := eq_true PX.out.1
          have qX := eq_true PX.out.2
          obtain ⟨ad, eA, -⟩ := row39 HR.out x PX.out.1 PX.out.2
          cases eA
          have HH := Lib.hid (fun b (hb : hasI (xs.take i.toNat) x = b) W (hW : Below w.heap.size w W) => (show Calls Try.prog 54 #[.slice (some adx) i.toNat cx, .int .i64 x] W (fun e w' => e = .returned (.bool b) ∧ W = w') from by have h := has_any W (some adx) cx (xs.take i.toNat) x (Kd.C_below CT.out hW) (by rw [HTK.out]; have := PI.out; have := HN.out; omega); rw [hb, HTK.out] at h; exact h))
          clear hx0 hx1
          cases hh : hasI (xs.take i.toNat) x with
          | true =>
            have HF := Lib.hid (isoI_no PI.out.1 PI.out.2.1 (show isoB l xs i = false by unfold isoB; rw [hxx, d0, d1, hh]; rfl))
            replace HH := Lib.hid (HH.out true hh)
            clear hxx hh
            go_upto_region 4 with (fail)
            refine start_ (n := 45) (S := fun w1 => Below w.heap.size w w1) (ds := []) (ar 45 0) (by kernel_rfl) rfl rfl (below_drew1 HB.out) (fun hHeld => ?_); refine with_tabW iso.tab4 iso.bits4 (fun HT_ HW_ => ?_)
            replace HB := Lib.hid (below_drew1 HB.out)
            generalize wr.drew = wz at HB hHeld ⊢
            refine pY 0 (some 12) (ar 45 1) HT_ (h := ?_)
            refine pY 1 (some 13) (ar 45 2) HT_ (h := ?_)
            refine pY 2 (some 14) (ar 45 3) HT_ (h := ?_)
            refine take_ (i := 3) (N := (some 15)) (v := ?_) (a' := ?_) (ar 45 4) rfl rfl (take_ofW HT_.out HW_.out (by kernel_rfl)) (fun _ _ _ h => h) (Or.inl ⟨by rfl, ?_⟩) hHeld ?_ ?_; rotate_left; (· rintro w1 hs1; have kc := int_at' (Kd.C_below HX.out hs1) i PI.out.1 PI.out.2.1; rw [EX.out] at kc; go_simp; with_reducible rfl); rotate_left; (· simp only [Act.put, List.setIfInBounds_toArray, List.set_cons_zero, List.set_cons_succ, i64_w, i32_w]; rfl)
            refine pY 4 (some 16) (ar 45 5) HT_ (h := ?_)
            refine pY 5 (some 17) (ar 45 6) HT_ (h := ?_)
            refine pY 6 (some 18) (ar 45 7) HT_ (h := ?_)
            refine pY 7 (some 19) (ar 45 8) HT_ (h := ?_)
            refine pY 8 (some 20) (ar 45 9) HT_ (h := ?_)
            refine take_ (i := 9) (N := (some 21)) (v := ?_) (a' := ?_) (ar 45 10) rfl rfl (take_ofW HT_.out HW_.out (by kernel_rfl)) (fun _ _ _ h => h) (Or.inl ⟨by rfl, ?_⟩) hHeld ?_ ?_; rotate_left; (· rintro w1 hs1; have kc := int_at' (Kd.C_below HX.out hs1) i PI.out.1 PI.out.2.1; rw [EX.out] at kc; go_simp; with_reducible rfl); rotate_left; (· simp only [Act.put, List.setIfInBounds_toArray, List.set_cons_zero, List.set_cons_succ, i64_w, i32_w]; rfl)
            refine pY 10 (some 22) (ar 45 11) HT_ (h := ?_)
            refine pY 11 (some 23) (ar 45 12) HT_ (h := ?_)
            refine pY 12 (some 24) (ar 45 13) HT_ (h := ?_)
            refine pY 13 (some 25) (ar 45 14) HT_ (h := ?_)
            refine pY 14 (some 26) (ar 45 15) HT_ (h := ?_)
            refine pY 15 (some 27) (ar 45 16) HT_ (h := ?_)
            refine pY 16 (some 28) (ar 45 17) HT_ (h := ?_)
            refine pY 17 (some 29) (ar 45 18) HT_ (h := ?_)
            refine pY 18 (some 30) (ar 45 19) HT_ (h := ?_)
            refine pY 19 (some 31) (ar 45 20) HT_ (h := ?_)
            refine pY 20 (some 32) (ar 45 21) HT_ (h := ?_)
            refine take_ (i := 21) (N := (some 33)) (v := ?_) (a' := ?_) (ar 45 22) rfl rfl (take_ofW HT_.out HW_.out (by kernel_rfl)) (fun _ _ _ h => h) (Or.inl ⟨by rfl, ?_⟩) hHeld ?_ ?_; rotate_left; (· rintro w1 hs1; have kc := int_at' (Kd.C_below HX.out hs1) i PI.out.1 PI.out.2.1; rw [EX.out] at kc; go_simp; with_reducible rfl); rotate_left; (· simp only [Act.put, List.setIfInBounds_toArray, List.set_cons_zero, List.set_cons_succ, i64_w, i32_w]; rfl)
            refine one_ (i := 22) (N := (some 34)) (ar 45 23) rfl rfl (one_of HT_.out (by kernel_rfl)) (by decide) (fun K hK => ?_); refine goes_ Try.func54 (by kernel_rfl) rfl #[.slice (some adx) i.toNat cx, .int .i64 x] (by rfl) rfl rfl (by (try simp only [List.map_toArray, List.map_cons, List.map_nil]); first | done | rfl) ?_; (with_reducible refine (HH.out _ HB.out).mono ?_); rintro e w12 ⟨rfl, rfl⟩; refine ⟨_, rfl, ?_⟩; refine hK.out _ _ HB.out (fun hHeld => ?_); clear hK K; refine norm_ (a' := ?_) ?_ ?_; rotate_left; (· show Act.put _ (some 34) _ = _; simp only [Act.put, List.setIfInBounds_toArray, List.set_cons_zero, List.set_cons_succ, i64_w, i32_w]; rfl)
            refine pY 23 (some 35) (ar 45 24) HT_ (h := ?_)
            refine pY 24 (some 36) (ar 45 25) HT_ (h := ?_)
            refine sY 25 (some 37) (ar 45 26) HT_ (h := ?_)
            refine sY 26 (some 38) (ar 45 27) HT_ (h := ?_)
            refine sY 27 (some 39) (ar 45 28) HT_ (h := ?_)
            refine sY 28 (some 40) (ar 45 29) HT_ (h := ?_)
            refine sY 29 (some 41) (ar 45 30) HT_ (h := ?_)
            refine sY 30 (some 42) (ar 45 31) HT_ (h := ?_)
            refine sY 31 (some 43) (ar 45 32) HT_ (h := ?_)
            refine sY 32 (some 44) (ar 45 33) HT_ (h := ?_)
            refine sY 33 (some 45) (ar 45 34) HT_ (h := ?_)
            refine sY 34 (some 46) (ar 45 35) HT_ (h := ?_)
            refine sY 35 (some 47) (ar 45 36) HT_ (h := ?_)
            refine sY 36 (some 48) (ar 45 37) HT_ (h := ?_)
            refine sY 37 (some 49) (ar 45 38) HT_ (h := ?_)
            refine sY 38 (some 50) (ar 45 39) HT_ (h := ?_)
            refine sY 39 (some 51) (ar 45 40) HT_ (h := ?_)
            refine sY 40 (some 52) (ar 45 41) HT_ (h := ?_)
            refine sY 41 (some 53) (ar 45 42) HT_ (h := ?_)
            refine sY 42 (some 54) (ar 45 43) HT_ (h := ?_)
            refine sY 43 (some 55) (ar 45 44) HT_ (h := ?_)
            refine pY 44 (some 56) (ar 45 45) HT_ (h := ?_)
            refine done_ (done_of HT_.out (by kernel_rfl)) ?_
            go_wp2
            go_ret
            exact ⟨by rw [HF.out]; rfl, HB.out⟩
          | false =>
            replace HH := Lib.hid (HH.out false hh)
            cases h2 : (rd_T39 l x).f2 with
            | false =>
              have HY := Lib.hid (HSTEP.out (show isoB l xs i = true by unfold isoB; rw [hxx, d0, d1, hh, h2]; rfl))
              have H2 := Lib.hid h2
              clear hxx hh h2
              go_upto_region 4 with (fail)
              refine start_ (n := 45) (S := fun w1 => Below w.heap.size w w1) (ds := []) (ar 45 0) (by kernel_rfl) rfl rfl (below_drew1 HB.out) (fun hHeld => ?_); refine with_tabW iso.tab4 iso.bits4 (fun HT_ HW_ => ?_)
              replace HB := Lib.hid (below_drew1 HB.out)
              generalize wr.drew = wz at HB hHeld ⊢
              refine pY 0 (some 12) (ar 45 1) HT_ (h := ?_)
              refine pY 1 (some 13) (ar 45 2) HT_ (h := ?_)
              refine pY 2 (some 14) (ar 45 3) HT_ (h := ?_)
              refine take_ (i := 3) (N := (some 15)) (v := ?_) (a' := ?_) (ar 45 4) rfl rfl (take_ofW HT_.out HW_.out (by kernel_rfl)) (fun _ _ _ h => h) (Or.inl ⟨by rfl, ?_⟩) hHeld ?_ ?_; rotate_left; (· rintro w1 hs1; have kc := int_at' (Kd.C_below HX.out hs1) i PI.out.1 PI.out.2.1; rw [EX.out] at kc; go_simp; with_reducible rfl); rotate_left; (· simp only [Act.put, List.setIfInBounds_toArray, List.set_cons_zero, List.set_cons_succ, i64_w, i32_w]; rfl)
              refine pY 4 (some 16) (ar 45 5) HT_ (h := ?_)
              refine pY 5 (some 17) (ar 45 6) HT_ (h := ?_)
              refine pY 6 (some 18) (ar 45 7) HT_ (h := ?_)
              refine pY 7 (some 19) (ar 45 8) HT_ (h := ?_)
              refine pY 8 (some 20) (ar 45 9) HT_ (h := ?_)
              refine take_ (i := 9) (N := (some 21)) (v := ?_) (a' := ?_) (ar 45 10) rfl rfl (take_ofW HT_.out HW_.out (by kernel_rfl)) (fun _ _ _ h => h) (Or.inl ⟨by rfl, ?_⟩) hHeld ?_ ?_; rotate_left; (· rintro w1 hs1; have kc := int_at' (Kd.C_below HX.out hs1) i PI.out.1 PI.out.2.1; rw [EX.out] at kc; go_simp; with_reducible rfl); rotate_left; (· simp only [Act.put, List.setIfInBounds_toArray, List.set_cons_zero, List.set_cons_succ, i64_w, i32_w]; rfl)
              refine pY 10 (some 22) (ar 45 11) HT_ (h := ?_)
              refine pY 11 (some 23) (ar 45 12) HT_ (h := ?_)
              refine pY 12 (some 24) (ar 45 13) HT_ (h := ?_)
              refine pY 13 (some 25) (ar 45 14) HT_ (h := ?_)
              refine pY 14 (some 26) (ar 45 15) HT_ (h := ?_)
              refine pY 15 (some 27) (ar 45 16) HT_ (h := ?_)
              refine pY 16 (some 28) (ar 45 17) HT_ (h := ?_)
              refine pY 17 (some 29) (ar 45 18) HT_ (h := ?_)
              refine pY 18 (some 30) (ar 45 19) HT_ (h := ?_)
              refine pY 19 (some 31) (ar 45 20) HT_ (h := ?_)
              refine pY 20 (some 32) (ar 45 21) HT_ (h := ?_)
              refine take_ (i := 21) (N := (some 33)) (v := ?_) (a' := ?_) (ar 45 22) rfl rfl (take_ofW HT_.out HW_.out (by kernel_rfl)) (fun _ _ _ h => h) (Or.inl ⟨by rfl, ?_⟩) hHeld ?_ ?_; rotate_left; (· rintro w1 hs1; have kc := int_at' (Kd.C_below HX.out hs1) i PI.out.1 PI.out.2.1; rw [EX.out] at kc; go_simp; with_reducible rfl); rotate_left; (· simp only [Act.put, List.setIfInBounds_toArray, List.set_cons_zero, List.set_cons_succ, i64_w, i32_w]; rfl)
              refine one_ (i := 22) (N := (some 34)) (ar 45 23) rfl rfl (one_of HT_.out (by kernel_rfl)) (by decide) (fun K hK => ?_); refine goes_ Try.func54 (by kernel_rfl) rfl #[.slice (some adx) i.toNat cx, .int .i64 x] (by rfl) rfl rfl (by (try simp only [List.map_toArray, List.map_cons, List.map_nil]); first | done | rfl) ?_; (with_reducible refine (HH.out _ HB.out).mono ?_); rintro e w12 ⟨rfl, rfl⟩; refine ⟨_, rfl, ?_⟩; refine hK.out _ _ HB.out (fun hHeld => ?_); clear hK K; refine norm_ (a' := ?_) ?_ ?_; rotate_left; (· show Act.put _ (some 34) _ = _; simp only [Act.put, List.setIfInBounds_toArray, List.set_cons_zero, List.set_cons_succ, i64_w, i32_w]; rfl)
              refine pY 23 (some 35) (ar 45 24) HT_ (h := ?_)
              refine pY 24 (some 36) (ar 45 25) HT_ (h := ?_)
              refine pY 25 (some 37) (ar 45 26) HT_ (h := ?_)
              refine pY 26 (some 38) (ar 45 27) HT_ (h := ?_)
              refine pY 27 (some 39) (ar 45 28) HT_ (h := ?_)
              refine pY 28 (some 40) (ar 45 29) HT_ (h := ?_)
              refine take_ (i := 29) (N := (some 41)) (v := ?_) (a' := ?_) (ar 45 30) rfl rfl (take_ofW HT_.out HW_.out (by kernel_rfl)) (fun _ _ _ h => h) (Or.inl ⟨by rfl, ?_⟩) hHeld ?_ ?_; rotate_left; (· rintro w1 hs1; have kc := int_at' (Kd.C_below HX.out hs1) i PI.out.1 PI.out.2.1; rw [EX.out] at kc; go_simp; with_reducible rfl); rotate_left; (· simp only [Act.put, List.setIfInBounds_toArray, List.set_cons_zero, List.set_cons_succ, i64_w, i32_w]; rfl)
              refine pY 30 (some 42) (ar 45 31) HT_ (h := ?_)
              refine pY 31 (some 43) (ar 45 32) HT_ (h := ?_)
              refine take_ (i := 32) (N := (some 44)) (v := ?_) (a' := ?_) (ar 45 33) rfl rfl (take_ofW HT_.out HW_.out (by kernel_rfl)) (fun _ _ _ h => h) (Or.inl ⟨by rfl, ?_⟩) hHeld ?_ ?_; rotate_left; (· rintro w1 hs1; obtain ⟨adI, eI, -, -, xI2, -⟩ := at_T39 (Kd.C_below HR.out hs1) x PX.out.1 PX.out.2; obtain rfl : ad = adI := (by injection eI); rw [H2.out] at xI2; go_simp; with_reducible rfl); rotate_left; (· simp only [Act.put, List.setIfInBounds_toArray, List.set_cons_zero, List.set_cons_succ, i64_w, i32_w]; rfl)
              refine pY 33 (some 45) (ar 45 34) HT_ (h := ?_)
              refine sY 34 (some 46) (ar 45 35) HT_ (h := ?_)
              refine sY 35 (some 47) (ar 45 36) HT_ (h := ?_)
              refine sY 36 (some 48) (ar 45 37) HT_ (h := ?_)
              refine sY 37 (some 49) (ar 45 38) HT_ (h := ?_)
              refine sY 38 (some 50) (ar 45 39) HT_ (h := ?_)
              refine sY 39 (some 51) (ar 45 40) HT_ (h := ?_)
              refine sY 40 (some 52) (ar 45 41) HT_ (h := ?_)
              refine sY 41 (some 53) (ar 45 42) HT_ (h := ?_)
              refine sY 42 (some 54) (ar 45 43) HT_ (h := ?_)
              refine pY 43 (some 55) (ar 45 44) HT_ (h := ?_)
              refine pY 44 (some 56) (ar 45 45) HT_ (h := ?_)
              refine done_ (done_of HT_.out (by kernel_rfl)) ?_
              go_wp2
              go_roundw
              case rel => exact ⟨i + 1, by first | rfl | go_num, ⟨by have := PI.out; omega, by have := PI.out; omega⟩, HY, HB⟩
              case measure => have := PI.out; simp [intOf]; omega
            | true =>
              have H2 := Lib.hid h2
              cases ha : ansB (rd_T39 l x) with
              | true =>
                have HY := Lib.hid (HSTEP.out (show isoB l xs i = true by unfold isoB; rw [hxx, d0, d1, hh, h2, ha]; rfl))
                have HA := Lib.hid (fun W => (show Calls Try.prog 44 #[.agg #[.int .i64 (rd_T39 l x).f0, .int .i64 (rd_T39 l x).f1, .bool (rd_T39 l x).f2, .string (rd_T39 l x).f3, .int .i64 (rd_T39 l x).f4.f0, .string (rd_T39 l x).f4.f1, .string (rd_T39 l x).f4.f2, .int .i64 (rd_T39 l x).f4.f3, .int .i64 (rd_T39 l x).f5, .int .i64 (rd_T39 l x).f6, .int .i64 (rd_T39 l x).f7.f0, .int .i64 (rd_T39 l x).f7.f1, .string (rd_T39 l x).f8.f0, .string (rd_T39 l x).f8.f1, .int .i64 (rd_T39 l x).f8.f2, .bool (rd_T39 l x).f9]] W (fun e w' => e = .returned (.bool true) ∧ Below W.heap.size W w') from ranswered_ag (rd_T39 l x) true ha W))
                clear hxx hh h2 ha
                go_upto_region 4 with (fail)
                refine start_ (n := 45) (S := fun w1 => Below w.heap.size w w1) (ds := []) (ar 45 0) (by kernel_rfl) rfl rfl (below_drew1 HB.out) (fun hHeld => ?_); refine with_tabW iso.tab4 iso.bits4 (fun HT_ HW_ => ?_)
                replace HB := Lib.hid (below_drew1 HB.out)
                generalize wr.drew = wz at HB hHeld ⊢
                refine pY 0 (some 12) (ar 45 1) HT_ (h := ?_)
                refine pY 1 (some 13) (ar 45 2) HT_ (h := ?_)
                refine pY 2 (some 14) (ar 45 3) HT_ (h := ?_)
                refine take_ (i := 3) (N := (some 15)) (v := ?_) (a' := ?_) (ar 45 4) rfl rfl (take_ofW HT_.out HW_.out (by kernel_rfl)) (fun _ _ _ h => h) (Or.inl ⟨by rfl, ?_⟩) hHeld ?_ ?_; rotate_left; (· rintro w1 hs1; have kc := int_at' (Kd.C_below HX.out hs1) i PI.out.1 PI.out.2.1; rw [EX.out] at kc; go_simp; with_reducible rfl); rotate_left; (· simp only [Act.put, List.setIfInBounds_toArray, List.set_cons_zero, List.set_cons_succ, i64_w, i32_w]; rfl)
                refine pY 4 (some 16) (ar 45 5) HT_ (h := ?_)
                refine pY 5 (some 17) (ar 45 6) HT_ (h := ?_)
                refine pY 6 (some 18) (ar 45 7) HT_ (h := ?_)
                refine pY 7 (some 19) (ar 45 8) HT_ (h := ?_)
                refine pY 8 (some 20) (ar 45 9) HT_ (h := ?_)
                refine take_ (i := 9) (N := (some 21)) (v := ?_) (a' := ?_) (ar 45 10) rfl rfl (take_ofW HT_.out HW_.out (by kernel_rfl)) (fun _ _ _ h => h) (Or.inl ⟨by rfl, ?_⟩) hHeld ?_ ?_; rotate_left; (· rintro w1 hs1; have kc := int_at' (Kd.C_below HX.out hs1) i PI.out.1 PI.out.2.1; rw [EX.out] at kc; go_simp; with_reducible rfl); rotate_left; (· simp only [Act.put, List.setIfInBounds_toArray, List.set_cons_zero, List.set_cons_succ, i64_w, i32_w]; rfl)
                refine pY 10 (some 22) (ar 45 11) HT_ (h := ?_)
                refine pY 11 (some 23) (ar 45 12) HT_ (h := ?_)
                refine pY 12 (some 24) (ar 45 13) HT_ (h := ?_)
                refine pY 13 (some 25) (ar 45 14) HT_ (h := ?_)
                refine pY 14 (some 26) (ar 45 15) HT_ (h := ?_)
                refine pY 15 (some 27) (ar 45 16) HT_ (h := ?_)
                refine pY 16 (some 28) (ar 45 17) HT_ (h := ?_)
                refine pY 17 (some 29) (ar 45 18) HT_ (h := ?_)
                refine pY 18 (some 30) (ar 45 19) HT_ (h := ?_)
                refine pY 19 (some 31) (ar 45 20) HT_ (h := ?_)
                refine pY 20 (some 32) (ar 45 21) HT_ (h := ?_)
                refine take_ (i := 21) (N := (some 33)) (v := ?_) (a' := ?_) (ar 45 22) rfl rfl (take_ofW HT_.out HW_.out (by kernel_rfl)) (fun _ _ _ h => h) (Or.inl ⟨by rfl, ?_⟩) hHeld ?_ ?_; rotate_left; (· rintro w1 hs1; have kc := int_at' (Kd.C_below HX.out hs1) i PI.out.1 PI.out.2.1; rw [EX.out] at kc; go_simp; with_reducible rfl); rotate_left; (· simp only [Act.put, List.setIfInBounds_toArray, List.set_cons_zero, List.set_cons_succ, i64_w, i32_w]; rfl)
                refine one_ (i := 22) (N := (some 34)) (ar 45 23) rfl rfl (one_of HT_.out (by kernel_rfl)) (by decide) (fun K hK => ?_); refine goes_ Try.func54 (by kernel_rfl) rfl #[.slice (some adx) i.toNat cx, .int .i64 x] (by rfl) rfl rfl (by (try simp only [List.map_toArray, List.map_cons, List.map_nil]); first | done | rfl) ?_; (with_reducible refine (HH.out _ HB.out).mono ?_); rintro e w12 ⟨rfl, rfl⟩; refine ⟨_, rfl, ?_⟩; refine hK.out _ _ HB.out (fun hHeld => ?_); clear hK K; refine norm_ (a' := ?_) ?_ ?_; rotate_left; (· show Act.put _ (some 34) _ = _; simp only [Act.put, List.setIfInBounds_toArray, List.set_cons_zero, List.set_cons_succ, i64_w, i32_w]; rfl)
                refine pY 23 (some 35) (ar 45 24) HT_ (h := ?_)
                refine pY 24 (some 36) (ar 45 25) HT_ (h := ?_)
                refine pY 25 (some 37) (ar 45 26) HT_ (h := ?_)
                refine pY 26 (some 38) (ar 45 27) HT_ (h := ?_)
                refine pY 27 (some 39) (ar 45 28) HT_ (h := ?_)
                refine pY 28 (some 40) (ar 45 29) HT_ (h := ?_)
                refine take_ (i := 29) (N := (some 41)) (v := ?_) (a' := ?_) (ar 45 30) rfl rfl (take_ofW HT_.out HW_.out (by kernel_rfl)) (fun _ _ _ h => h) (Or.inl ⟨by rfl, ?_⟩) hHeld ?_ ?_; rotate_left; (· rintro w1 hs1; have kc := int_at' (Kd.C_below HX.out hs1) i PI.out.1 PI.out.2.1; rw [EX.out] at kc; go_simp; with_reducible rfl); rotate_left; (· simp only [Act.put, List.setIfInBounds_toArray, List.set_cons_zero, List.set_cons_succ, i64_w, i32_w]; rfl)
                refine pY 30 (some 42) (ar 45 31) HT_ (h := ?_)
                refine pY 31 (some 43) (ar 45 32) HT_ (h := ?_)
                refine take_ (i := 32) (N := (some 44)) (v := ?_) (a' := ?_) (ar 45 33) rfl rfl (take_ofW HT_.out HW_.out (by kernel_rfl)) (fun _ _ _ h => h) (Or.inl ⟨by rfl, ?_⟩) hHeld ?_ ?_; rotate_left; (· rintro w1 hs1; obtain ⟨adI, eI, -, -, xI2, -⟩ := at_T39 (Kd.C_below HR.out hs1) x PX.out.1 PX.out.2; obtain rfl : ad = adI := (by injection eI); rw [H2.out] at xI2; go_simp; with_reducible rfl); rotate_left; (· simp only [Act.put, List.setIfInBounds_toArray, List.set_cons_zero, List.set_cons_succ, i64_w, i32_w]; rfl)
                refine pY 33 (some 45) (ar 45 34) HT_ (h := ?_)
                refine pY 34 (some 46) (ar 45 35) HT_ (h := ?_)
                refine pY 35 (some 47) (ar 45 36) HT_ (h := ?_)
                refine pY 36 (some 48) (ar 45 37) HT_ (h := ?_)
                refine pY 37 (some 49) (ar 45 38) HT_ (h := ?_)
                refine take_ (i := 38) (N := (some 50)) (v := ?_) (a' := ?_) (ar 45 39) rfl rfl (take_ofW HT_.out HW_.out (by kernel_rfl)) (fun _ _ _ h => h) (Or.inl ⟨by rfl, ?_⟩) hHeld ?_ ?_; rotate_left; (· rintro w1 hs1; have kc := int_at' (Kd.C_below HX.out hs1) i PI.out.1 PI.out.2.1; rw [EX.out] at kc; go_simp; with_reducible rfl); rotate_left; (· simp only [Act.put, List.setIfInBounds_toArray, List.set_cons_zero, List.set_cons_succ, i64_w, i32_w]; rfl)
                refine pY 39 (some 51) (ar 45 40) HT_ (h := ?_)
                refine take_ (i := 40) (N := (some 52)) (v := .agg #[.int .i64 (rd_T39 l x).f0, .int .i64 (rd_T39 l x).f1, .bool (rd_T39 l x).f2, .string (rd_T39 l x).f3, .int .i64 (rd_T39 l x).f4.f0, .string (rd_T39 l x).f4.f1, .string (rd_T39 l x).f4.f2, .int .i64 (rd_T39 l x).f4.f3, .int .i64 (rd_T39 l x).f5, .int .i64 (rd_T39 l x).f6, .int .i64 (rd_T39 l x).f7.f0, .int .i64 (rd_T39 l x).f7.f1, .string (rd_T39 l x).f8.f0, .string (rd_T39 l x).f8.f1, .int .i64 (rd_T39 l x).f8.f2, .bool (rd_T39 l x).f9]) (a' := ?_) (ar 45 41) rfl rfl (take_ofW HT_.out HW_.out (by kernel_rfl)) (fun _ _ _ h => h) (Or.inl ⟨by rfl, fun w1 hs1 => exec_load_p 39 (.tmp 51) rfl (ad.add (x.toNat * 16)) rfl [.int .i64 (rd_T39 l x).f0, .int .i64 (rd_T39 l x).f1, .bool (rd_T39 l x).f2, .string (rd_T39 l x).f3, .int .i64 (rd_T39 l x).f4.f0, .string (rd_T39 l x).f4.f1, .string (rd_T39 l x).f4.f2, .int .i64 (rd_T39 l x).f4.f3, .int .i64 (rd_T39 l x).f5, .int .i64 (rd_T39 l x).f6, .int .i64 (rd_T39 l x).f7.f0, .int .i64 (rd_T39 l x).f7.f1, .string (rd_T39 l x).f8.f0, .string (rd_T39 l x).f8.f1, .int .i64 (rd_T39 l x).f8.f2, .bool (rd_T39 l x).f9] _ (row39' (Kd.C_below HR.out hs1) x PX.out.1 PX.out.2) Try.underlying39 rfl (by kernel_rfl)⟩) hHeld ?_ ?_; rotate_left; (· simp only [Act.put, List.setIfInBounds_toArray, List.set_cons_zero, List.set_cons_succ, i64_w, i32_w]; rfl)
                refine one_ (i := 41) (N := (some 53)) (ar 45 42) rfl rfl (one_of HT_.out (by kernel_rfl)) (by decide) (fun K hK => ?_); refine goes_ Try.func44 (by kernel_rfl) rfl #[.agg #[.int .i64 (rd_T39 l x).f0, .int .i64 (rd_T39 l x).f1, .bool (rd_T39 l x).f2, .string (rd_T39 l x).f3, .int .i64 (rd_T39 l x).f4.f0, .string (rd_T39 l x).f4.f1, .string (rd_T39 l x).f4.f2, .int .i64 (rd_T39 l x).f4.f3, .int .i64 (rd_T39 l x).f5, .int .i64 (rd_T39 l x).f6, .int .i64 (rd_T39 l x).f7.f0, .int .i64 (rd_T39 l x).f7.f1, .string (rd_T39 l x).f8.f0, .string (rd_T39 l x).f8.f1, .int .i64 (rd_T39 l x).f8.f2, .bool (rd_T39 l x).f9]] (by rfl) rfl rfl (by (try simp only [List.map_toArray, List.map_cons, List.map_nil]); first | done | rfl) ?_; (with_reducible refine (HA.out _).mono ?_); rintro e w12 ⟨rfl, hb⟩; refine ⟨_, rfl, ?_⟩; replace HB := Lib.hid (below_step HB.out hb); clear hb; refine hK.out _ _ HB.out (fun hHeld => ?_); clear hK K; refine norm_ (a' := ?_) ?_ ?_; rotate_left; (· show Act.put _ (some 53) _ = _; simp only [Act.put, List.setIfInBounds_toArray, List.set_cons_zero, List.set_cons_succ, i64_w, i32_w]; rfl)
                refine pY 42 (some 54) (ar 45 43) HT_ (h := ?_)
                refine pY 43 (some 55) (ar 45 44) HT_ (h := ?_)
                refine pY 44 (some 56) (ar 45 45) HT_ (h := ?_)
                refine done_ (done_of HT_.out (by kernel_rfl)) ?_
                go_wp2
                go_roundw
                case rel => exact ⟨i + 1, by first | rfl | go_num, ⟨by have := PI.out; omega, by have := PI.out; omega⟩, HY, HB⟩
                case measure => have := PI.out; simp [intOf]; omega
              | false =>
                have HF := Lib.hid (isoI_no PI.out.1 PI.out.2.1 (show isoB l xs i = false by unfold isoB; rw [hxx, d0, d1, hh, h2, ha]; rfl))
                have HA := Lib.hid (fun W => (show Calls Try.prog 44 #[.agg #[.int .i64 (rd_T39 l x).f0, .int .i64 (rd_T39 l x).f1, .bool (rd_T39 l x).f2, .string (rd_T39 l x).f3, .int .i64 (rd_T39 l x).f4.f0, .string (rd_T39 l x).f4.f1, .string (rd_T39 l x).f4.f2, .int .i64 (rd_T39 l x).f4.f3, .int .i64 (rd_T39 l x).f5, .int .i64 (rd_T39 l x).f6, .int .i64 (rd_T39 l x).f7.f0, .int .i64 (rd_T39 l x).f7.f1, .string (rd_T39 l x).f8.f0, .string (rd_T39 l x).f8.f1, .int .i64 (rd_T39 l x).f8.f2, .bool (rd_T39 l x).f9]] W (fun e w' => e = .returned (.bool false) ∧ Below W.heap.size W w') from ranswered_ag (rd_T39 l x) false ha W))
                clear hxx hh h2 ha
                go_upto_region 4 with (fail)
                refine start_ (n := 45) (S := fun w1 => Below w.heap.size w w1) (ds := []) (ar 45 0) (by kernel_rfl) rfl rfl (below_drew1 HB.out) (fun hHeld => ?_); refine with_tabW iso.tab4 iso.bits4 (fun HT_ HW_ => ?_)
                replace HB := Lib.hid (below_drew1 HB.out)
                generalize wr.drew = wz at HB hHeld ⊢
                refine pY 0 (some 12) (ar 45 1) HT_ (h := ?_)
                refine pY 1 (some 13) (ar 45 2) HT_ (h := ?_)
                refine pY 2 (some 14) (ar 45 3) HT_ (h := ?_)
                refine take_ (i := 3) (N := (some 15)) (v := ?_) (a' := ?_) (ar 45 4) rfl rfl (take_ofW HT_.out HW_.out (by kernel_rfl)) (fun _ _ _ h => h) (Or.inl ⟨by rfl, ?_⟩) hHeld ?_ ?_; rotate_left; (· rintro w1 hs1; have kc := int_at' (Kd.C_below HX.out hs1) i PI.out.1 PI.out.2.1; rw [EX.out] at kc; go_simp; with_reducible rfl); rotate_left; (· simp only [Act.put, List.setIfInBounds_toArray, List.set_cons_zero, List.set_cons_succ, i64_w, i32_w]; rfl)
                refine pY 4 (some 16) (ar 45 5) HT_ (h := ?_)
                refine pY 5 (some 17) (ar 45 6) HT_ (h := ?_)
                refine pY 6 (some 18) (ar 45 7) HT_ (h := ?_)
                refine pY 7 (some 19) (ar 45 8) HT_ (h := ?_)
                refine pY 8 (some 20) (ar 45 9) HT_ (h := ?_)
                refine take_ (i := 9) (N := (some 21)) (v := ?_) (a' := ?_) (ar 45 10) rfl rfl (take_ofW HT_.out HW_.out (by kernel_rfl)) (fun _ _ _ h => h) (Or.inl ⟨by rfl, ?_⟩) hHeld ?_ ?_; rotate_left; (· rintro w1 hs1; have kc := int_at' (Kd.C_below HX.out hs1) i PI.out.1 PI.out.2.1; rw [EX.out] at kc; go_simp; with_reducible rfl); rotate_left; (· simp only [Act.put, List.setIfInBounds_toArray, List.set_cons_zero, List.set_cons_succ, i64_w, i32_w]; rfl)
                refine pY 10 (some 22) (ar 45 11) HT_ (h := ?_)
                refine pY 11 (some 23) (ar 45 12) HT_ (h := ?_)
                refine pY 12 (some 24) (ar 45 13) HT_ (h := ?_)
                refine pY 13 (some 25) (ar 45 14) HT_ (h := ?_)
                refine pY 14 (some 26) (ar 45 15) HT_ (h := ?_)
                refine pY 15 (some 27) (ar 45 16) HT_ (h := ?_)
                refine pY 16 (some 28) (ar 45 17) HT_ (h := ?_)
                refine pY 17 (some 29) (ar 45 18) HT_ (h := ?_)
                refine pY 18 (some 30) (ar 45 19) HT_ (h := ?_)
                refine pY 19 (some 31) (ar 45 20) HT_ (h := ?_)
                refine pY 20 (some 32) (ar 45 21) HT_ (h := ?_)
                refine take_ (i := 21) (N := (some 33)) (v := ?_) (a' := ?_) (ar 45 22) rfl rfl (take_ofW HT_.out HW_.out (by kernel_rfl)) (fun _ _ _ h => h) (Or.inl ⟨by rfl, ?_⟩) hHeld ?_ ?_; rotate_left; (· rintro w1 hs1; have kc := int_at' (Kd.C_below HX.out hs1) i PI.out.1 PI.out.2.1; rw [EX.out] at kc; go_simp; with_reducible rfl); rotate_left; (· simp only [Act.put, List.setIfInBounds_toArray, List.set_cons_zero, List.set_cons_succ, i64_w, i32_w]; rfl)
                refine one_ (i := 22) (N := (some 34)) (ar 45 23) rfl rfl (one_of HT_.out (by kernel_rfl)) (by decide) (fun K hK => ?_); refine goes_ Try.func54 (by kernel_rfl) rfl #[.slice (some adx) i.toNat cx, .int .i64 x] (by rfl) rfl rfl (by (try simp only [List.map_toArray, List.map_cons, List.map_nil]); first | done | rfl) ?_; (with_reducible refine (HH.out _ HB.out).mono ?_); rintro e w12 ⟨rfl, rfl⟩; refine ⟨_, rfl, ?_⟩; refine hK.out _ _ HB.out (fun hHeld => ?_); clear hK K; refine norm_ (a' := ?_) ?_ ?_; rotate_left; (· show Act.put _ (some 34) _ = _; simp only [Act.put, List.setIfInBounds_toArray, List.set_cons_zero, List.set_cons_succ, i64_w, i32_w]; rfl)
                refine pY 23 (some 35) (ar 45 24) HT_ (h := ?_)
                refine pY 24 (some 36) (ar 45 25) HT_ (h := ?_)
                refine pY 25 (some 37) (ar 45 26) HT_ (h := ?_)
                refine pY 26 (some 38) (ar 45 27) HT_ (h := ?_)
                refine pY 27 (some 39) (ar 45 28) HT_ (h := ?_)
                refine pY 28 (some 40) (ar 45 29) HT_ (h := ?_)
                refine take_ (i := 29) (N := (some 41)) (v := ?_) (a' := ?_) (ar 45 30) rfl rfl (take_ofW HT_.out HW_.out (by kernel_rfl)) (fun _ _ _ h => h) (Or.inl ⟨by rfl, ?_⟩) hHeld ?_ ?_; rotate_left; (· rintro w1 hs1; have kc := int_at' (Kd.C_below HX.out hs1) i PI.out.1 PI.out.2.1; rw [EX.out] at kc; go_simp; with_reducible rfl); rotate_left; (· simp only [Act.put, List.setIfInBounds_toArray, List.set_cons_zero, List.set_cons_succ, i64_w, i32_w]; rfl)
                refine pY 30 (some 42) (ar 45 31) HT_ (h := ?_)
                refine pY 31 (some 43) (ar 45 32) HT_ (h := ?_)
                refine take_ (i := 32) (N := (some 44)) (v := ?_) (a' := ?_) (ar 45 33) rfl rfl (take_ofW HT_.out HW_.out (by kernel_rfl)) (fun _ _ _ h => h) (Or.inl ⟨by rfl, ?_⟩) hHeld ?_ ?_; rotate_left; (· rintro w1 hs1; obtain ⟨adI, eI, -, -, xI2, -⟩ := at_T39 (Kd.C_below HR.out hs1) x PX.out.1 PX.out.2; obtain rfl : ad = adI := (by injection eI); rw [H2.out] at xI2; go_simp; with_reducible rfl); rotate_left; (· simp only [Act.put, List.setIfInBounds_toArray, List.set_cons_zero, List.set_cons_succ, i64_w, i32_w]; rfl)
                refine pY 33 (some 45) (ar 45 34) HT_ (h := ?_)
                refine pY 34 (some 46) (ar 45 35) HT_ (h := ?_)
                refine pY 35 (some 47) (ar 45 36) HT_ (h := ?_)
                refine pY 36 (some 48) (ar 45 37) HT_ (h := ?_)
                refine pY 37 (some 49) (ar 45 38) HT_ (h := ?_)
                refine take_ (i := 38) (N := (some 50)) (v := ?_) (a' := ?_) (ar 45 39) rfl rfl (take_ofW HT_.out HW_.out (by kernel_rfl)) (fun _ _ _ h => h) (Or.inl ⟨by rfl, ?_⟩) hHeld ?_ ?_; rotate_left; (· rintro w1 hs1; have kc := int_at' (Kd.C_below HX.out hs1) i PI.out.1 PI.out.2.1; rw [EX.out] at kc; go_simp; with_reducible rfl); rotate_left; (· simp only [Act.put, List.setIfInBounds_toArray, List.set_cons_zero, List.set_cons_succ, i64_w, i32_w]; rfl)
                refine pY 39 (some 51) (ar 45 40) HT_ (h := ?_)
                refine take_ (i := 40) (N := (some 52)) (v := .agg #[.int .i64 (rd_T39 l x).f0, .int .i64 (rd_T39 l x).f1, .bool (rd_T39 l x).f2, .string (rd_T39 l x).f3, .int .i64 (rd_T39 l x).f4.f0, .string (rd_T39 l x).f4.f1, .string (rd_T39 l x).f4.f2, .int .i64 (rd_T39 l x).f4.f3, .int .i64 (rd_T39 l x).f5, .int .i64 (rd_T39 l x).f6, .int .i64 (rd_T39 l x).f7.f0, .int .i64 (rd_T39 l x).f7.f1, .string (rd_T39 l x).f8.f0, .string (rd_T39 l x).f8.f1, .int .i64 (rd_T39 l x).f8.f2, .bool (rd_T39 l x).f9]) (a' := ?_) (ar 45 41) rfl rfl (take_ofW HT_.out HW_.out (by kernel_rfl)) (fun _ _ _ h => h) (Or.inl ⟨by rfl, fun w1 hs1 => exec_load_p 39 (.tmp 51) rfl (ad.add (x.toNat * 16)) rfl [.int .i64 (rd_T39 l x).f0, .int .i64 (rd_T39 l x).f1, .bool (rd_T39 l x).f2, .string (rd_T39 l x).f3, .int .i64 (rd_T39 l x).f4.f0, .string (rd_T39 l x).f4.f1, .string (rd_T39 l x).f4.f2, .int .i64 (rd_T39 l x).f4.f3, .int .i64 (rd_T39 l x).f5, .int .i64 (rd_T39 l x).f6, .int .i64 (rd_T39 l x).f7.f0, .int .i64 (rd_T39 l x).f7.f1, .string (rd_T39 l x).f8.f0, .string (rd_T39 l x).f8.f1, .int .i64 (rd_T39 l x).f8.f2, .bool (rd_T39 l x).f9] _ (row39' (Kd.C_below HR.out hs1) x PX.out.1 PX.out.2) Try.underlying39 rfl (by kernel_rfl)⟩) hHeld ?_ ?_; rotate_left; (· simp only [Act.put, List.setIfInBounds_toArray, List.set_cons_zero, List.set_cons_succ, i64_w, i32_w]; rfl)
                refine one_ (i := 41) (N := (some 53)) (ar 45 42) rfl rfl (one_of HT_.out (by kernel_rfl)) (by decide) (fun K hK => ?_); refine goes_ Try.func44 (by kernel_rfl) rfl #[.agg #[.int .i64 (rd_T39 l x).f0, .int .i64 (rd_T39 l x).f1, .bool (rd_T39 l x).f2, .string (rd_T39 l x).f3, .int .i64 (rd_T39 l x).f4.f0, .string (rd_T39 l x).f4.f1, .string (rd_T39 l x).f4.f2, .int .i64 (rd_T39 l x).f4.f3, .int .i64 (rd_T39 l x).f5, .int .i64 (rd_T39 l x).f6, .int .i64 (rd_T39 l x).f7.f0, .int .i64 (rd_T39 l x).f7.f1, .string (rd_T39 l x).f8.f0, .string (rd_T39 l x).f8.f1, .int .i64 (rd_T39 l x).f8.f2, .bool (rd_T39 l x).f9]] (by rfl) rfl rfl (by (try simp only [List.map_toArray, List.map_cons, List.map_nil]); first | done | rfl) ?_; (with_reducible refine (HA.out _).mono ?_); rintro e w12 ⟨rfl, hb⟩; refine ⟨_, rfl, ?_⟩; replace HB := Lib.hid (below_step HB.out hb); clear hb; refine hK.out _ _ HB.out (fun hHeld => ?_); clear hK K; refine norm_ (a' := ?_) ?_ ?_; rotate_left; (· show Act.put _ (some 53) _ = _; simp only [Act.put, List.setIfInBounds_toArray, List.set_cons_zero, List.set_cons_succ, i64_w, i32_w]; rfl)
                refine pY 42 (some 54) (ar 45 43) HT_ (h := ?_)
                refine pY 43 (some 55) (ar 45 44) HT_ (h := ?_)
                refine pY 44 (some 56) (ar 45 45) HT_ (h := ?_)
                refine done_ (done_of HT_.out (by kernel_rfl)) ?_
                go_wp2
                go_ret
                exact ⟨by rw [HF.out]; rfl, HB.out⟩
    · have hnl : decide (i < (xs.length : Int)) = false := decide_eq_false hlt
      have ei : i = (xs.length : Int) := by omega
      subst ei
      have HF := Lib.hid (isoI_yes HJ.out)
      clear i0 i1 hlt
      go_wp2
      go_ret
      exact ⟨by rw [HF.out]; rfl, HB.out⟩
end Go.Proofs.Ytbakmkoppieelaa.PLinearChecks

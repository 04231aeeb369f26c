/- What is proved: whether all that precedes a call stands ahead of it, of the reference; the conditions stand in the theorem. -/
import Derived.Test.YtbakmkoppieelaaLHa
namespace Go.Proofs.Ytbakmkoppieelaa.PLinearChecks
open Go.RowKit Go.Proofs.YtbakmkoppieelaaW.PrintWords Go.Proofs.YtbakmkoppieelaaW.PrintLast Go.Proofs.YtbakmkoppieelaaW.PrintMore
set_option linter.unusedVariables false
set_option linter.unusedSimpArgs false
/-- Stands every call that precedes the i-th of an order ahead of it? -/
def stnI (l : List S39) (xs : List Int) (i : Int) : Bool := (List.range l.length).all fun k => !precB (cl l k) (rd_T39 l (ix xs i)) || hasI (xs.take i.toNat) (k : Int)
theorem stnI_no {l : List S39} {xs : List Int} {i k : Int} (h0 : 0 ≤ k) (h1 : k < l.length) (hp : precB (rd_T39 l k) (rd_T39 l (ix xs i)) = true) (hh : hasI (xs.take i.toNat) k = false) : stnI l xs i = false := by
  rw [Bool.eq_false_iff]
  intro h
  unfold stnI at h
  rw [List.all_eq_true] at h
  have h2 := h k.toNat (List.mem_range.mpr (by omega))
  rw [show ((k.toNat : Nat) : Int) = k by omega, hh, ← rd_cl', hp] at h2
  cases h2
theorem stnI_yes {l : List S39} {xs : List Int} {i : Int} (h : ∀ j : Nat, (j : Int) < l.length → precB (cl l j) (rd_T39 l (ix xs i)) = true → hasI (xs.take i.toNat) (j : Int) = true) : stnI l xs i = true := by
  unfold stnI
  rw [List.all_eq_true]
  intro k hk
  cases hp : precB (cl l k) (rd_T39 l (ix xs i)) with
  | false => rfl
  | true => rw [h k (by have := List.mem_range.mp hk; omega) hp]; rfl
def stn.T4 : Bool × List (List Nat × List Nat) := (true, [([], []), ([], []), ([0, 1], [0, 1]), ([2], [2]), ([], []), ([], []), ([], []), ([5, 6], [5, 6]), ([7], [7]), ([4, 8], [4, 8]), ([9], [9]), ([3, 10], [3, 10]), ([11, 11], [11]), ([12], [12]), ([12], [12]), ([13, 14, 12], [12, 13, 14]), ([12], [12]), ([15, 16, 12, 12], [12, 15, 16]), ([17, 12], [12, 17]), ([12, 18], [12, 18])])
def stn.B4 : List Nat := [0, 0, 3, 7, 0, 0, 0, 96, 224, 496, 1008, 2047, 4095, 8191, 8191, 32767, 8191, 131071, 262143, 524287]
theorem stn.tab4 : rtab .any (opsOf Try.f62 4) = stn.T4 := by kernel_rfl
theorem stn.bits4 : waitsOk stn.T4.2 stn.B4 = true := by kernel_rfl
set_option maxRecDepth 100000 in
set_option maxHeartbeats 8000000 in
theorem stands_any (w : World) (A Ax : Option Addr) (c cx : Nat) (l : List S39) (xs : List Int) (i : Int) (hr : Kd.C k39 w A l.length l) (hc : l.length ≤ c) (hx : Kd.C (Kd.int .i64) w Ax xs.length xs) (hcx : xs.length ≤ cx) (hn : l.length ≤ 1000000000000) (hnx : xs.length ≤ 100000000000000) (i0 : 0 ≤ i) (i1 : i < xs.length) (x0 : 0 ≤ ix xs i) (x1 : ix xs i < l.length) :
    Calls Try.prog 62 #[.slice A l.length c, .slice Ax xs.length cx, .int .i64 i] w fun e w' => e = .returned (.bool (stnI l xs i)) ∧ Below w.heap.size w w' := by
  have HR := Lib.hid hr
  have HX := Lib.hid hx
  have HN := Lib.hid (And.intro hn hnx)
  have HCX := Lib.hid hcx
  obtain ⟨x, hxx⟩ : ∃ x, ix xs i = x := ⟨_, rfl⟩
  have EX := Lib.hid hxx
  rw [hxx] at x0 x1
  have PI := Lib.hid (show 0 ≤ i ∧ i < (xs.length : Int) ∧ i.toNat ≤ xs.length by omega)
  have PX := Lib.hid (And.intro x0 x1)
  have pI := eq_true i0
  have qI := eq_true i1
  have sI := eq_true (show i ≤ (cx : Int) by omega)
  have pX := eq_true x0
  have qX := eq_true x1
  have HTK := Lib.hid (show (xs.take i.toNat).length = i.toNat by rw [List.length_take]; omega)
  have CT := Lib.hid (show Kd.C (Kd.int .i64) w Ax (xs.take i.toNat).length (xs.take i.toNat) by exact Kd.C_take hx (m := i.toNat) (by omega))
  clear hr hx hxx i0 i1 x0 x1 hcx hc hn hnx
  go_enter Try.func62, Try.ntmps62
  go_wp2
  go_loopw [7] (fun v7 wr => ∃ k : Int, v7 = .int .i64 k ∧ (0 ≤ k ∧ k ≤ (l.length : Int)) ∧ RowKit.Hid (∀ j : Nat, (j : Int) < k → precB (cl l j) (rd_T39 l x) = true → hasI (xs.take i.toNat) (j : Int) = true) ∧ RowKit.Hid (Below w.heap.size w wr)) (fun v7 _ => ((l.length : Int) - intOf v7).toNat)
  case atStart => exact ⟨0, rfl, ⟨by omega, by omega⟩, Lib.hid (fun j hj => by omega), Lib.hid (Below.refl _ _)⟩
  case round =>
    obtain ⟨k, rfl, ⟨k0, k1⟩, HJ, HB⟩ := hrel
    by_cases hlt : k < (l.length : Int)
    · have c1 : decide (k < (l.length : Int)) = true := decide_eq_true hlt
      have PK := Lib.hid (show 0 ≤ k ∧ k < (l.length : Int) by omega)
      have pK := eq_true k0
      have qK := eq_true hlt
      have wi : wrap64 (k + 1) = k + 1 := by have h2 := HN.out; unfold wrap64; omega
      have wi2 : IntKind.i64.wrap (k + 1) = k + 1 := (i64_w _).trans wi
      obtain ⟨ad, eA, RK⟩ := row39 (Kd.C_below HR.out HB.out) k k0 hlt
      cases eA
      obtain ⟨adx, eAx, -⟩ := int_at HX.out i PI.out.1 PI.out.2.1
      cases eAx
      clear RK k0 k1 hlt
      cases hp : precB (rd_T39 l k) (rd_T39 l x) with
      | false =>
        have HP := Lib.hid (fun W => (show Calls Try.prog 20 #[.agg #[.int .i64 (rd_T39 l k).f0, .int .i64 (rd_T39 l k).f1, .bool (rd_T39 l k).f2, .string (rd_T39 l k).f3, .int .i64 (rd_T39 l k).f4.f0, .string (rd_T39 l k).f4.f1, .string (rd_T39 l k).f4.f2, .int .i64 (rd_T39 l k).f4.f3, .int .i64 (rd_T39 l k).f5, .int .i64 (rd_T39 l k).f6, .int .i64 (rd_T39 l k).f7.f0, .int .i64 (rd_T39 l k).f7.f1, .string (rd_T39 l k).f8.f0, .string (rd_T39 l k).f8.f1, .int .i64 (rd_T39 l k).f8.f2, .bool (rd_T39 l k).f9], .agg #[.int .i64 (rd_T39 l x).f0, .int .i64 (rd_T39 l x).f1, .bool (rd_T39 l x).f2, .string (rd_T39 l x).f3, .int .i64 (rd_T39 l x).f4.f0, .string (rd_T39 l x).f4.f1, .string (rd_T39 l x).f4.f2, .int .i64 (rd_T39 l x).f4.f3, .int .i64 (rd_T39 l x).f5, .int .i64 (rd_T39 l x).f6, .int .i64 (rd_T39 l x).f7.f0, .int .i64 (rd_T39 l x).f7.f1, .string (rd_T39 l x).f8.f0, .string (rd_T39 l x).f8.f1, .int .i64 (rd_T39 l x).f8.f2, .bool (rd_T39 l x).f9]] W (fun e w' => e = .returned (.bool false) ∧ Below W.heap.size W w') from hp ▸ prec2 (rd_T39 l k) (rd_T39 l x) W))
        have HJ2 : RowKit.Hid (∀ j : Nat, (j : Int) < k + 1 → precB (cl l j) (rd_T39 l x) = true → hasI (xs.take i.toNat) (j : Int) = true) := Lib.hid (fun j hj haj => by
          by_cases e : (j : Int) = k
          · have h : precB (rd_T39 l (j : Int)) (rd_T39 l x) = true := haj
            rw [e, hp] at h
            cases h
          · exact HJ.out j (by omega) haj)
        clear hp
        go_upto_region 4 with (fail)
        refine start_ (n := 20) (S := fun w1 => Below w.heap.size w w1) (ds := []) (ar 20 0) (by kernel_rfl) rfl rfl (below_drew1 HB.out) (fun hHeld => ?_); refine with_tabW stn.tab4 stn.bits4 (fun HT_ HW_ => ?_)
        replace HB := Lib.hid (below_drew1 HB.out)
        generalize wr.drew = wz at HB hHeld ⊢
        refine pY 0 (some 14) (ar 20 1) HT_ (h := ?_)
        refine pY 1 (some 15) (ar 20 2) HT_ (h := ?_)
        refine pY 2 (some 16) (ar 20 3) HT_ (h := ?_)
        refine take_ (i := 3) (N := (some 17)) (v := .agg #[.int .i64 (rd_T39 l k).f0, .int .i64 (rd_T39 l k).f1, .bool (rd_T39 l k).f2, .string (rd_T39 l k).f3, .int .i64 (rd_T39 l k).f4.f0, .string (rd_T39 l k).f4.f1, .string (rd_T39 l k).f4.f2, .int .i64 (rd_T39 l k).f4.f3, .int .i64 (rd_T39 l k).f5, .int .i64 (rd_T39 l k).f6, .int .i64 (rd_T39 l k).f7.f0, .int .i64 (rd_T39 l k).f7.f1, .string (rd_T39 l k).f8.f0, .string (rd_T39 l k).f8.f1, .int .i64 (rd_T39 l k).f8.f2, .bool (rd_T39 l k).f9]) (a' := ?_) (ar 20 4) rfl rfl (take_ofW HT_.out HW_.out (by kernel_rfl)) (fun _ _ _ h => h) (Or.inl ⟨by rfl, fun w1 hs1 => exec_load_p 39 (.tmp 16) rfl (ad.add (k.toNat * 16)) rfl [.int .i64 (rd_T39 l k).f0, .int .i64 (rd_T39 l k).f1, .bool (rd_T39 l k).f2, .string (rd_T39 l k).f3, .int .i64 (rd_T39 l k).f4.f0, .string (rd_T39 l k).f4.f1, .string (rd_T39 l k).f4.f2, .int .i64 (rd_T39 l k).f4.f3, .int .i64 (rd_T39 l k).f5, .int .i64 (rd_T39 l k).f6, .int .i64 (rd_T39 l k).f7.f0, .int .i64 (rd_T39 l k).f7.f1, .string (rd_T39 l k).f8.f0, .string (rd_T39 l k).f8.f1, .int .i64 (rd_T39 l k).f8.f2, .bool (rd_T39 l k).f9] _ (row39' (Kd.C_below HR.out hs1) k PK.out.1 PK.out.2) Try.underlying39 rfl (by kernel_rfl)⟩) hHeld ?_ ?_; rotate_left; (· simp only [Act.put, List.setIfInBounds_toArray, List.set_cons_zero, List.set_cons_succ, i64_w, i32_w]; rfl)
        refine pY 4 (some 18) (ar 20 5) HT_ (h := ?_)
        refine pY 5 (some 19) (ar 20 6) HT_ (h := ?_)
        refine pY 6 (some 20) (ar 20 7) HT_ (h := ?_)
        refine pY 7 (some 21) (ar 20 8) HT_ (h := ?_)
        refine take_ (i := 8) (N := (some 22)) (v := ?_) (a' := ?_) (ar 20 9) rfl rfl (take_ofW HT_.out HW_.out (by kernel_rfl)) (fun _ _ _ h => h) (Or.inl ⟨by rfl, ?_⟩) hHeld ?_ ?_; rotate_left; (· rintro w1 hs1; have kc := int_at' (Kd.C_below HX.out hs1) i PI.out.1 PI.out.2.1; rw [EX.out] at kc; go_simp; with_reducible rfl); rotate_left; (· simp only [Act.put, List.setIfInBounds_toArray, List.set_cons_zero, List.set_cons_succ, i64_w, i32_w]; rfl)
        refine pY 9 (some 23) (ar 20 10) HT_ (h := ?_)
        refine take_ (i := 10) (N := (some 24)) (v := .agg #[.int .i64 (rd_T39 l x).f0, .int .i64 (rd_T39 l x).f1, .bool (rd_T39 l x).f2, .string (rd_T39 l x).f3, .int .i64 (rd_T39 l x).f4.f0, .string (rd_T39 l x).f4.f1, .string (rd_T39 l x).f4.f2, .int .i64 (rd_T39 l x).f4.f3, .int .i64 (rd_T39 l x).f5, .int .i64 (rd_T39 l x).f6, .int .i64 (rd_T39 l x).f7.f0, .int .i64 (rd_T39 l x).f7.f1, .string (rd_T39 l x).f8.f0, .string (rd_T39 l x).f8.f1, .int .i64 (rd_T39 l x).f8.f2, .bool (rd_T39 l x).f9]) (a' := ?_) (ar 20 11) rfl rfl (take_ofW HT_.out HW_.out (by kernel_rfl)) (fun _ _ _ h => h) (Or.inl ⟨by rfl, fun w1 hs1 => exec_load_p 39 (.tmp 23) rfl (ad.add (x.toNat * 16)) rfl [.int .i64 (rd_T39 l x).f0, .int .i64 (rd_T39 l x).f1, .bool (rd_T39 l x).f2, .string (rd_T39 l x).f3, .int .i64 (rd_T39 l x).f4.f0, .string (rd_T39 l x).f4.f1, .string (rd_T39 l x).f4.f2, .int .i64 (rd_T39 l x).f4.f3, .int .i64 (rd_T39 l x).f5, .int .i64 (rd_T39 l x).f6, .int .i64 (rd_T39 l x).f7.f0, .int .i64 (rd_T39 l x).f7.f1, .string (rd_T39 l x).f8.f0, .string (rd_T39 l x).f8.f1, .int .i64 (rd_T39 l x).f8.f2, .bool (rd_T39 l x).f9] _ (row39' (Kd.C_below HR.out hs1) x PX.out.1 PX.out.2) Try.underlying39 rfl (by kernel_rfl)⟩) hHeld ?_ ?_; rotate_left; (· simp only [Act.put, List.setIfInBounds_toArray, List.set_cons_zero, List.set_cons_succ, i64_w, i32_w]; rfl)
        refine one_ (i := 11) (N := (some 25)) (ar 20 12) rfl rfl (one_of HT_.out (by kernel_rfl)) (by decide) (fun K hK => ?_); refine goes_ Try.func20 (by kernel_rfl) rfl #[.agg #[.int .i64 (rd_T39 l k).f0, .int .i64 (rd_T39 l k).f1, .bool (rd_T39 l k).f2, .string (rd_T39 l k).f3, .int .i64 (rd_T39 l k).f4.f0, .string (rd_T39 l k).f4.f1, .string (rd_T39 l k).f4.f2, .int .i64 (rd_T39 l k).f4.f3, .int .i64 (rd_T39 l k).f5, .int .i64 (rd_T39 l k).f6, .int .i64 (rd_T39 l k).f7.f0, .int .i64 (rd_T39 l k).f7.f1, .string (rd_T39 l k).f8.f0, .string (rd_T39 l k).f8.f1, .int .i64 (rd_T39 l k).f8.f2, .bool (rd_T39 l k).f9], .agg #[.int .i64 (rd_T39 l x).f0, .int .i64 (rd_T39 l x).f1, .bool (rd_T39 l x).f2, .string (rd_T39 l x).f3, .int .i64 (rd_T39 l x).f4.f0, .string (rd_T39 l x).f4.f1, .string (rd_T39 l x).f4.f2, .int .i64 (rd_T39 l x).f4.f3, .int .i64 (rd_T39 l x).f5, .int .i64 (rd_T39 l x).f6, .int .i64 (rd_T39 l x).f7.f0, .int .i64 (rd_T39 l x).f7.f1, .string (rd_T39 l x).f8.f0, .string (rd_T39 l x).f8.f1, .int .i64 (rd_T39 l x).f8.f2, .bool (rd_T39 l x).f9]] (by rfl) rfl rfl (by (try simp only [List.map_toArray, List.map_cons, List.map_nil]); first | done | rfl) ?_; (with_reducible refine (HP.out _).mono ?_); rintro e w12 ⟨rfl, hb⟩; refine ⟨_, rfl, ?_⟩; replace HB := Lib.hid (below_step HB.out hb); clear hb; refine hK.out _ _ HB.out (fun hHeld => ?_); clear hK K; refine norm_ (a' := ?_) ?_ ?_; rotate_left; (· show Act.put _ (some 25) _ = _; simp only [Act.put, List.setIfInBounds_toArray, List.set_cons_zero, List.set_cons_succ, i64_w, i32_w]; rfl)
        refine pY 12 (some 26) (ar 20 13) HT_ (h := ?_)
        refine sY 13 (some 27) (ar 20 14) HT_ (h := ?_)
        refine sY 14 (some 28) (ar 20 15) HT_ (h := ?_)
        refine sY 15 (some 29) (ar 20 16) HT_ (h := ?_)
        refine sY 16 (some 30) (ar 20 17) HT_ (h := ?_)
        refine sY 17 (some 31) (ar 20 18) HT_ (h := ?_)
        refine sY 18 (some 32) (ar 20 19) HT_ (h := ?_)
        refine pY 19 (some 33) (ar 20 20) HT_ (h := ?_)
        refine done_ (done_of HT_.out (by kernel_rfl)) ?_
        go_wp2
        go_roundw
        case rel => exact ⟨k + 1, by first | rfl | go_num, ⟨by have := PK.out; omega, by have := PK.out; omega⟩, HJ2, HB⟩
        case measure => have := PK.out; simp [intOf]; omega
      | true =>
        have HP := Lib.hid (fun W => (show Calls Try.prog 20 #[.agg #[.int .i64 (rd_T39 l k).f0, .int .i64 (rd_T39 l k).f1, .bool (rd_T39 l k).f2, .string (rd_T39 l k).f3, .int .i64 (rd_T39 l k).f4.f0, .string (rd_T39 l k).f4.f1, .string (rd_T39 l k).f4.f2, .int .i64 (rd_T39 l k).f4.f3, .int .i64 (rd_T39 l k).f5, .int .i64 (rd_T39 l k).f6, .int .i64 (rd_T39 l k).f7.f0, .int .i64 (rd_T39 l k).f7.f1, .string (rd_T39 l k).f8.f0, .string (rd_T39 l k).f8.f1, .int .i64 (rd_T39 l k).f8.f2, .bool (rd_T39 l k).f9], .agg #[.int .i64 (rd_T39 l x).f0, .int .i64 (rd_T39 l x).f1, .bool (rd_T39 l x).f2, .string (rd_T39 l x).f3, .int .i64 (rd_T39 l x).f4.f0, .string (rd_T39 l x).f4.f1, .string (rd_T39 l x).f4.f2, .int .i64 (rd_T39 l x).f4.f3, .int .i64 (rd_T39 l x).f5, .int .i64 (rd_T39 l x).f6, .int .i64 (rd_T39 l x).f7.f0, .int .i64 (rd_T39 l x).f7.f1, .string (rd_T39 l x).f8.f0, .string (rd_T39 l x).f8.f1, .int .i64 (rd_T39 l x).f8.f2, .bool (rd_T39 l x).f9]] W (fun e w' => e = .returned (.bool true) ∧ Below W.heap.size W w') from hp ▸ prec2 (rd_T39 l k) (rd_T39 l x) W))
        cases hh : hasI (xs.take i.toNat) k with
        | false =>
          have HF := Lib.hid (show stnI l xs i = false from stnI_no PK.out.1 PK.out.2 (by rw [EX.out]; exact hp) hh)
          have HH := Lib.hid (fun W (hW : Below w.heap.size w W) => (show Calls Try.prog 54 #[.slice (some adx) i.toNat cx, .int .i64 k] W (fun e w' => e = .returned (.bool false) ∧ W = w') from by have h := has_any W (some adx) cx (xs.take i.toNat) k (Kd.C_below CT.out hW) (by rw [HTK.out]; have := PI.out; have := HN.out; omega); rw [hh, HTK.out] at h; exact h))
          clear hp hh
          go_upto_region 4 with (fail)
          refine start_ (n := 20) (S := fun w1 => Below w.heap.size w w1) (ds := []) (ar 20 0) (by kernel_rfl) rfl rfl (below_drew1 HB.out) (fun hHeld => ?_); refine with_tabW stn.tab4 stn.bits4 (fun HT_ HW_ => ?_)
          replace HB := Lib.hid (below_drew1 HB.out)
          generalize wr.drew = wz at HB hHeld ⊢
          refine pY 0 (some 14) (ar 20 1) HT_ (h := ?_)
          refine pY 1 (some 15) (ar 20 2) HT_ (h := ?_)
          refine pY 2 (some 16) (ar 20 3) HT_ (h := ?_)
          refine take_ (i := 3) (N := (some 17)) (v := .agg #[.int .i64 (rd_T39 l k).f0, .int .i64 (rd_T39 l k).f1, .bool (rd_T39 l k).f2, .string (rd_T39 l k).f3, .int .i64 (rd_T39 l k).f4.f0, .string (rd_T39 l k).f4.f1, .string (rd_T39 l k).f4.f2, .int .i64 (rd_T39 l k).f4.f3, .int .i64 (rd_T39 l k).f5, .int .i64 (rd_T39 l k).f6, .int .i64 (rd_T39 l k).f7.f0, .int .i64 (rd_T39 l k).f7.f1, .string (rd_T39 l k).f8.f0, .string (rd_T39 l k).f8.f1, .int .i64 (rd_T39 l k).f8.f2, .bool (rd_T39 l k).f9]) (a' := ?_) (ar 20 4) rfl rfl (take_ofW HT_.out HW_.out (by kernel_rfl)) (fun _ _ _ h => h) (Or.inl ⟨by rfl, fun w1 hs1 => exec_load_p 39 (.tmp 16) rfl (ad.add (k.toNat * 16)) rfl [.int .i64 (rd_T39 l k).f0, .int .i64 (rd_T39 l k).f1, .bool (rd_T39 l k).f2, .string (rd_T39 l k).f3, .int .i64 (rd_T39 l k).f4.f0, .string (rd_T39 l k).f4.f1, .string (rd_T39 l k).f4.f2, .int .i64 (rd_T39 l k).f4.f3, .int .i64 (rd_T39 l k).f5, .int .i64 (rd_T39 l k).f6, .int .i64 (rd_T39 l k).f7.f0, .int .i64 (rd_T39 l k).f7.f1, .string (rd_T39 l k).f8.f0, .string (rd_T39 l k).f8.f1, .int .i64 (rd_T39 l k).f8.f2, .bool (rd_T39 l k).f9] _ (row39' (Kd.C_below HR.out hs1) k PK.out.1 PK.out.2) Try.underlying39 rfl (by kernel_rfl)⟩) hHeld ?_ ?_; rotate_left; (· simp only [Act.put, List.setIfInBounds_toArray, List.set_cons_zero, List.set_cons_succ, i64_w, i32_w]; rfl)
          refine pY 4 (some 18) (ar 20 5) HT_ (h := ?_)
          refine pY 5 (some 19) (ar 20 6) HT_ (h := ?_)
          refine pY 6 (some 20) (ar 20 7) HT_ (h := ?_)
          refine pY 7 (some 21) (ar 20 8) HT_ (h := ?_)
          refine take_ (i := 8) (N := (some 22)) (v := ?_) (a' := ?_) (ar 20 9) rfl rfl (take_ofW HT_.out HW_.out (by kernel_rfl)) (fun _ _ _ h => h) (Or.inl ⟨by rfl, ?_⟩) hHeld ?_ ?_; rotate_left; (· rintro w1 hs1; have kc := int_at' (Kd.C_below HX.out hs1) i PI.out.1 PI.out.2.1; rw [EX.out] at kc; go_simp; with_reducible rfl); rotate_left; (· simp only [Act.put, List.setIfInBounds_toArray, List.set_cons_zero, List.set_cons_succ, i64_w, i32_w]; rfl)
          refine pY 9 (some 23) (ar 20 10) HT_ (h := ?_)
          refine take_ (i := 10) (N := (some 24)) (v := .agg #[.int .i64 (rd_T39 l x).f0, .int .i64 (rd_T39 l x).f1, .bool (rd_T39 l x).f2, .string (rd_T39 l x).f3, .int .i64 (rd_T39 l x).f4.f0, .string (rd_T39 l x).f4.f1, .string (rd_T39 l x).f4.f2, .int .i64 (rd_T39 l x).f4.f3, .int .i64 (rd_T39 l x).f5, .int .i64 (rd_T39 l x).f6, .int .i64 (rd_T39 l x).f7.f0, .int .i64 (rd_T39 l x).f7.f1, .string (rd_T39 l x).f8.f0, .string (rd_T39 l x).f8.f1, .int .i64 (rd_T39 l x).f8.f2, .bool (rd_T39 l x).f9]) (a' := ?_) (ar 20 11) rfl rfl (take_ofW HT_.out HW_.out (by kernel_rfl)) (fun _ _ _ h => h) (Or.inl ⟨by rfl, fun w1 hs1 => exec_load_p 39 (.tmp 23) rfl (ad.add (x.toNat * 16)) rfl [.int .i64 (rd_T39 l x).f0, .int .i64 (rd_T39 l x).f1, .bool (rd_T39 l x).f2, .string (rd_T39 l x).f3, .int .i64 (rd_T39 l x).f4.f0, .string (rd_T39 l x).f4.f1, .string (rd_T39 l x).f4.f2, .int .i64 (rd_T39 l x).f4.f3, .int .i64 (rd_T39 l x).f5, .int .i64 (rd_T39 l x).f6, .int .i64 (rd_T39 l x).f7.f0, .int .i64 (rd_T39 l x).f7.f1, .string (rd_T39 l x).f8.f0, .string (rd_T39 l x).f8.f1, .int .i64 (rd_T39 l x).f8.f2, .bool (rd_T39 l x).f9] _ (row39' (Kd.C_below HR.out hs1) x PX.out.1 PX.out.2) Try.underlying39 rfl (by kernel_rfl)⟩) hHeld ?_ ?_; rotate_left; (· simp only [Act.put, List.setIfInBounds_toArray, List.set_cons_zero, List.set_cons_succ, i64_w, i32_w]; rfl)
          refine one_ (i := 11) (N := (some 25)) (ar 20 12) rfl rfl (one_of HT_.out (by kernel_rfl)) (by decide) (fun K hK => ?_); refine goes_ Try.func20 (by kernel_rfl) rfl #[.agg #[.int .i64 (rd_T39 l k).f0, .int .i64 (rd_T39 l k).f1, .bool (rd_T39 l k).f2, .string (rd_T39 l k).f3, .int .i64 (rd_T39 l k).f4.f0, .string (rd_T39 l k).f4.f1, .string (rd_T39 l k).f4.f2, .int .i64 (rd_T39 l k).f4.f3, .int .i64 (rd_T39 l k).f5, .int .i64 (rd_T39 l k).f6, .int .i64 (rd_T39 l k).f7.f0, .int .i64 (rd_T39 l k).f7.f1, .string (rd_T39 l k).f8.f0, .string (rd_T39 l k).f8.f1, .int .i64 (rd_T39 l k).f8.f2, .bool (rd_T39 l k).f9], .agg #[.int .i64 (rd_T39 l x).f0, .int .i64 (rd_T39 l x).f1, .bool (rd_T39 l x).f2, .string (rd_T39 l x).f3, .int .i64 (rd_T39 l x).f4.f0, .string (rd_T39 l x).f4.f1, .string (rd_T39 l x).f4.f2, .int .i64 (rd_T39 l x).f4.f3, .int .i64 (rd_T39 l x).f5, .int .i64 (rd_T39 l x).f6, .int .i64 (rd_T39 l x).f7.f0, .int .i64 (rd_T39 l x).f7.f1, .string (rd_T39 l x).f8.f0, .string (rd_T39 l x).f8.f1, .int .i64 (rd_T39 l x).f8.f2, .bool (rd_T39 l x).f9]] (by rfl) rfl rfl (by (try simp only [List.map_toArray, List.map_cons, List.map_nil]); first | done | rfl) ?_; (with_reducible refine (HP.out _).mono ?_); rintro e w12 ⟨rfl, hb⟩; refine ⟨_, rfl, ?_⟩; replace HB := Lib.hid (below_step HB.out hb); clear hb; refine hK.out _ _ HB.out (fun hHeld => ?_); clear hK K; refine norm_ (a' := ?_) ?_ ?_; rotate_left; (· show Act.put _ (some 25) _ = _; simp only [Act.put, List.setIfInBounds_toArray, List.set_cons_zero, List.set_cons_succ, i64_w, i32_w]; rfl)
          refine pY 12 (some 26) (ar 20 13) HT_ (h := ?_)
          refine pY 13 (some 27) (ar 20 14) HT_ (h := ?_)
          refine pY 14 (some 28) (ar 20 15) HT_ (h := ?_)
          refine pY 15 (some 29) (ar 20 16) HT_ (h := ?_)
          refine pY 16 (some 30) (ar 20 17) HT_ (h := ?_)
          refine one_ (i := 17) (N := (some 31)) (ar 20 18) rfl rfl (one_of HT_.out (by kernel_rfl)) (by decide) (fun K hK => ?_); refine goes_ Try.func54 (by kernel_rfl) rfl #[.slice (some adx) i.toNat cx, .int .i64 k] (by rfl) rfl rfl (by (try simp only [List.map_toArray, List.map_cons, List.map_nil]); first | done | rfl) ?_; (with_reducible refine (HH.out _ HB.out).mono ?_); rintro e w12 ⟨rfl, rfl⟩; refine ⟨_, rfl, ?_⟩; refine hK.out _ _ HB.out (fun hHeld => ?_); clear hK K; refine norm_ (a' := ?_) ?_ ?_; rotate_left; (· show Act.put _ (some 31) _ = _; simp only [Act.put, List.setIfInBounds_toArray, List.set_cons_zero, List.set_cons_succ, i64_w, i32_w]; rfl)
          refine pY 18 (some 32) (ar 20 19) HT_ (h := ?_)
          refine pY 19 (some 33) (ar 20 20) HT_ (h := ?_)
          refine done_ (done_of HT_.out (by kernel_rfl)) ?_
          go_wp2
          go_ret
          exact ⟨by rw [HF.out]; rfl, HB.out⟩
        | true =>
          have HH := Lib.hid (fun W (hW : Below w.heap.size w W) => (show Calls Try.prog 54 #[.slice (some adx) i.toNat cx, .int .i64 k] W (fun e w' => e = .returned (.bool true) ∧ W = w') from by have h := has_any W (some adx) cx (xs.take i.toNat) k (Kd.C_below CT.out hW) (by rw [HTK.out]; have := PI.out; have := HN.out; omega); rw [hh, HTK.out] at h; exact h))
          have HJ2 : RowKit.Hid (∀ j : Nat, (j : Int) < k + 1 → precB (cl l j) (rd_T39 l x) = true → hasI (xs.take i.toNat) (j : Int) = true) := Lib.hid (fun j hj haj => by
            by_cases e : (j : Int) = k
            · rw [e]; exact hh
            · exact HJ.out j (by omega) haj)
          clear hp hh
          go_upto_region 4 with (fail)
          refine start_ (n := 20) (S := fun w1 => Below w.heap.size w w1) (ds := []) (ar 20 0) (by kernel_rfl) rfl rfl (below_drew1 HB.out) (fun hHeld => ?_); refine with_tabW stn.tab4 stn.bits4 (fun HT_ HW_ => ?_)
          replace HB := Lib.hid (below_drew1 HB.out)
          generalize wr.drew = wz at HB hHeld ⊢
          refine pY 0 (some 14) (ar 20 1) HT_ (h := ?_)
          refine pY 1 (some 15) (ar 20 2) HT_ (h := ?_)
          refine pY 2 (some 16) (ar 20 3) HT_ (h := ?_)
          refine take_ (i := 3) (N := (some 17)) (v := .agg #[.int .i64 (rd_T39 l k).f0, .int .i64 (rd_T39 l k).f1, .bool (rd_T39 l k).f2, .string (rd_T39 l k).f3, .int .i64 (rd_T39 l k).f4.f0, .string (rd_T39 l k).f4.f1, .string (rd_T39 l k).f4.f2, .int .i64 (rd_T39 l k).f4.f3, .int .i64 (rd_T39 l k).f5, .int .i64 (rd_T39 l k).f6, .int .i64 (rd_T39 l k).f7.f0, .int .i64 (rd_T39 l k).f7.f1, .string (rd_T39 l k).f8.f0, .string (rd_T39 l k).f8.f1, .int .i64 (rd_T39 l k).f8.f2, .bool (rd_T39 l k).f9]) (a' := ?_) (ar 20 4) rfl rfl (take_ofW HT_.out HW_.out (by kernel_rfl)) (fun _ _ _ h => h) (Or.inl ⟨by rfl, fun w1 hs1 => exec_load_p 39 (.tmp 16) rfl (ad.add (k.toNat * 16)) rfl [.int .i64 (rd_T39 l k).f0, .int .i64 (rd_T39 l k).f1, .bool (rd_T39 l k).f2, .string (rd_T39 l k).f3, .int .i64 (rd_T39 l k).f4.f0, .string (rd_T39 l k).f4.f1, .string (rd_T39 l k).f4.f2, .int .i64 (rd_T39 l k).f4.f3, .int .i64 (rd_T39 l k).f5, .int .i64 (rd_T39 l k).f6, .int .i64 (rd_T39 l k).f7.f0, .int .i64 (rd_T39 l k).f7.f1, .string (rd_T39 l k).f8.f0, .string (rd_T39 l k).f8.f1, .int .i64 (rd_T39 l k).f8.f2, .bool (rd_T39 l k).f9] _ (row39' (Kd.C_below HR.out hs1) k PK.out.1 PK.out.2) Try.underlying39 rfl (by kernel_rfl)⟩) hHeld ?_ ?_; rotate_left; (· simp only [Act.put, List.setIfInBounds_toArray, List.set_cons_zero, List.set_cons_succ, i64_w, i32_w]; rfl)
          refine pY 4 (some 18) (ar 20 5) HT_ (h := ?_)
          refine pY 5 (some 19) (ar 20 6) HT_ (h := ?_)
          refine pY 6 (some 20) (ar 20 7) HT_ (h := ?_)
          refine pY 7 (some 21) (ar 20 8) HT_ (h := ?_)
          refine take_ (i := 8) (N := (some 22)) (v := ?_) (a' := ?_) (ar 20 9) rfl rfl (take_ofW HT_.out HW_.out (by kernel_rfl)) (fun _ _ _ h => h) (Or.inl ⟨by rfl, ?_⟩) hHeld ?_ ?_; rotate_left; (· rintro w1 hs1; have kc := int_at' (Kd.C_below HX.out hs1) i PI.out.1 PI.out.2.1; rw [EX.out] at kc; go_simp; with_reducible rfl); rotate_left; (· simp only [Act.put, List.setIfInBounds_toArray, List.set_cons_zero, List.set_cons_succ, i64_w, i32_w]; rfl)
          refine pY 9 (some 23) (ar 20 10) HT_ (h := ?_)
          refine take_ (i := 10) (N := (some 24)) (v := .agg #[.int .i64 (rd_T39 l x).f0, .int .i64 (rd_T39 l x).f1, .bool (rd_T39 l x).f2, .string (rd_T39 l x).f3, .int .i64 (rd_T39 l x).f4.f0, .string (rd_T39 l x).f4.f1, .string (rd_T39 l x).f4.f2, .int .i64 (rd_T39 l x).f4.f3, .int .i64 (rd_T39 l x).f5, .int .i64 (rd_T39 l x).f6, .int .i64 (rd_T39 l x).f7.f0, .int .i64 (rd_T39 l x).f7.f1, .string (rd_T39 l x).f8.f0, .string (rd_T39 l x).f8.f1, .int .i64 (rd_T39 l x).f8.f2, .bool (rd_T39 l x).f9]) (a' := ?_) (ar 20 11) rfl rfl (take_ofW HT_.out HW_.out (by kernel_rfl)) (fun _ _ _ h => h) (Or.inl ⟨by rfl, fun w1 hs1 => exec_load_p 39 (.tmp 23) rfl (ad.add (x.toNat * 16)) rfl [.int .i64 (rd_T39 l x).f0, .int .i64 (rd_T39 l x).f1, .bool (rd_T39 l x).f2, .string (rd_T39 l x).f3, .int .i64 (rd_T39 l x).f4.f0, .string (rd_T39 l x).f4.f1, .string (rd_T39 l x).f4.f2, .int .i64 (rd_T39 l x).f4.f3, .int .i64 (rd_T39 l x).f5, .int .i64 (rd_T39 l x).f6, .int .i64 (rd_T39 l x).f7.f0, .int .i64 (rd_T39 l x).f7.f1, .string (rd_T39 l x).f8.f0, .string (rd_T39 l x).f8.f1, .int .i64 (rd_T39 l x).f8.f2, .bool (rd_T39 l x).f9] _ (row39' (Kd.C_below HR.out hs1) x PX.out.1 PX.out.2) Try.underlying39 rfl (by kernel_rfl)⟩) hHeld ?_ ?_; rotate_left; (· simp only [Act.put, List.setIfInBounds_toArray, List.set_cons_zero, List.set_cons_succ, i64_w, i32_w]; rfl)
          refine one_ (i := 11) (N := (some 25)) (ar 20 12) rfl rfl (one_of HT_.out (by kernel_rfl)) (by decide) (fun K hK => ?_); refine goes_ Try.func20 (by kernel_rfl) rfl #[.agg #[.int .i64 (rd_T39 l k).f0, .int .i64 (rd_T39 l k).f1, .bool (rd_T39 l k).f2, .string (rd_T39 l k).f3, .int .i64 (rd_T39 l k).f4.f0, .string (rd_T39 l k).f4.f1, .string (rd_T39 l k).f4.f2, .int .i64 (rd_T39 l k).f4.f3, .int .i64 (rd_T39 l k).f5, .int .i64 (rd_T39 l k).f6, .int .i64 (rd_T39 l k).f7.f0, .int .i64 (rd_T39 l k).f7.f1, .string (rd_T39 l k).f8.f0, .string (rd_T39 l k).f8.f1, .int .i64 (rd_T39 l k).f8.f2, .bool (rd_T39 l k).f9], .agg #[.int .i64 (rd_T39 l x).f0, .int .i64 (rd_T39 l x).f1, .bool (rd_T39 l x).f2, .string (rd_T39 l x).f3, .int .i64 (rd_T39 l x).f4.f0, .string (rd_T39 l x).f4.f1, .string (rd_T39 l x).f4.f2, .int .i64 (rd_T39 l x).f4.f3, .int .i64 (rd_T39 l x).f5, .int .i64 (rd_T39 l x).f6, .int .i64 (rd_T39 l x).f7.f0, .int .i64 (rd_T39 l x).f7.f1, .string (rd_T39 l x).f8.f0, .string (rd_T39 l x).f8.f1, .int .i64 (rd_T39 l x).f8.f2, .bool (rd_T39 l x).f9]] (by rfl) rfl rfl (by (try simp only [List.map_toArray, List.map_cons, List.map_nil]); first | done | rfl) ?_; (with_reducible refine (HP.out _).mono ?_); rintro e w12 ⟨rfl, hb⟩; refine ⟨_, rfl, ?_⟩; replace HB := Lib.hid (below_step HB.out hb); clear hb; refine hK.out _ _ HB.out (fun hHeld => ?_); clear hK K; refine norm_ (a' := ?_) ?_ ?_; rotate_left; (· show Act.put _ (some 25) _ = _; simp only [Act.put, List.setIfInBounds_toArray, List.set_cons_zero, List.set_cons_succ, i64_w, i32_w]; rfl)
          refine pY 12 (some 26) (ar 20 13) HT_ (h := ?_)
          refine pY 13 (some 27) (ar 20 14) HT_ (h := ?_)
          refine pY 14 (some 28) (ar 20 15) HT_ (h := ?_)
          refine pY 15 (some 29) (ar 20 16) HT_ (h := ?_)
          refine pY 16 (some 30) (ar 20 17) HT_ (h := ?_)
          refine one_ (i := 17) (N := (some 31)) (ar 20 18) rfl rfl (one_of HT_.out (by kernel_rfl)) (by decide) (fun K hK => ?_); refine goes_ Try.func54 (by kernel_rfl) rfl #[.slice (some adx) i.toNat cx, .int .i64 k] (by rfl) rfl rfl (by (try simp only [List.map_toArray, List.map_cons, List.map_nil]); first | done | rfl) ?_; (with_reducible refine (HH.out _ HB.out).mono ?_); rintro e w12 ⟨rfl, rfl⟩; refine ⟨_, rfl, ?_⟩; refine hK.out _ _ HB.out (fun hHeld => ?_); clear hK K; refine norm_ (a' := ?_) ?_ ?_; rotate_left; (· show Act.put _ (some 31) _ = _; simp only [Act.put, List.setIfInBounds_toArray, List.set_cons_zero, List.set_cons_succ, i64_w, i32_w]; rfl)
          refine pY 18 (some 32) (ar 20 19) HT_ (h := ?_)
          refine pY 19 (some 33) (ar 20 20) HT_ (h := ?_)
          refine done_ (done_of HT_.out (by kernel_rfl)) ?_
          go_wp2
          go_roundw
          case rel => exact ⟨k + 1, by first | rfl | go_num, ⟨by have := PK.out; omega, by have := PK.out; omega⟩, HJ2, HB⟩
          case measure => have := PK.out; simp [intOf]; omega
    · have hnl : decide (k < (l.length : Int)) = false := decide_eq_false hlt
      have ek : k = (l.length : Int) := by omega
      subst ek
      have HF := Lib.hid (show stnI l xs i = true from stnI_yes (by rw [EX.out]; exact HJ.out))
      clear k0 k1 hlt
      go_wp2
      go_ret
      exact ⟨by rw [HF.out]; rfl, HB.out⟩
end Go.Proofs.Ytbakmkoppieelaa.PLinearChecks

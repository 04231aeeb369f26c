/- What is proved: the law's own functions that compare lists of calls; the conditions stand in the theorems. -/
import Derived.Test.YtbakmkoppieelaaLSeaP
namespace Go.Proofs.Ytbakmkoppieelaa.PLinearChecks
open Go.RowKit Go.Proofs.YtbakmkoppieelaaW.PrintWords Go.Proofs.YtbakmkoppieelaaW.PrintLast Go.Proofs.YtbakmkoppieelaaW.PrintMore
set_option linter.unusedVariables false
set_option linter.unusedSimpArgs false
def smc.T4 : Bool × List (List Nat × List Nat) := (true, [([], []), ([], []), ([0, 1], [0, 1]), ([2], [2]), ([], []), ([], []), ([4, 5], [4, 5]), ([6], [6]), ([3, 7], [3, 7])])
def smc.B4 : List Nat := [0, 0, 3, 7, 0, 0, 48, 112, 255]
theorem smc.tab4 : rtab .any (opsOf Try.f25 4) = smc.T4 := by kernel_rfl
theorem smc.bits4 : waitsOk smc.T4.2 smc.B4 = true := by kernel_rfl
theorem smc_run {o : Oper} {a : Act} {x : S39} {p q : Operand} {t2 : TypeId} (ho : o.op = .binOp .neq 39 p q t2) (hx : a.eval p = .agg #[.int .i64 x.f0, .int .i64 x.f1, .bool x.f2, .string x.f3, .int .i64 x.f4.f0, .string x.f4.f1, .string x.f4.f2, .int .i64 x.f4.f3, .int .i64 x.f5, .int .i64 x.f6, .int .i64 x.f7.f0, .int .i64 x.f7.f1, .string x.f8.f0, .string x.f8.f1, .int .i64 x.f8.f2, .bool x.f9]) (hy : a.eval q = .agg #[.int .i64 x.f0, .int .i64 x.f1, .bool x.f2, .string x.f3, .int .i64 x.f4.f0, .string x.f4.f1, .string x.f4.f2, .int .i64 x.f4.f3, .int .i64 x.f5, .int .i64 x.f6, .int .i64 x.f7.f0, .int .i64 x.f7.f1, .string x.f8.f0, .string x.f8.f1, .int .i64 x.f8.f2, .bool x.f9]) (w : World) : (execOp a.eval o).run Try.prog w = .ok (.value (.bool false)) w := by
  unfold execOp
  simp only [ho, hx, hy, Sem.run_bind, run_eqGuard_agg _ _ _ _ _ _ _ (show Try.prog.eqGuardType Try.prog.depth 39 = false by kernel_rfl), run_neq_struct, Result.andThen_ok, Sem.run_pure]
  have h := eqA39 9997 w x.f0 x.f0 x.f1 x.f1 x.f2 x.f2 x.f3 x.f3 x.f4.f0 x.f4.f0 x.f4.f1 x.f4.f1 x.f4.f2 x.f4.f2 x.f4.f3 x.f4.f3 x.f5 x.f5 x.f6 x.f6 x.f7.f0 x.f7.f0 x.f7.f1 x.f7.f1 x.f8.f0 x.f8.f0 x.f8.f1 x.f8.f1 x.f8.f2 x.f8.f2 x.f9 x.f9
  simp only [beq_self_eq_true, Bool.and_self, Nat.reduceAdd] at h
  rw [h]
  rfl
set_option maxRecDepth 100000 in
set_option maxHeartbeats 8000000 in
theorem samec_any (w : World) (A D : Option Addr) (c d : Nat) (l : List S39) (hx : Kd.C k39 w A l.length l) (hy : Kd.C k39 w D l.length l) (hn : l.length ≤ 1000000000000) :
    Calls Try.prog 25 #[.slice A l.length c, .slice D l.length d] w fun e w' => e = .returned (.bool true) ∧ Below w.heap.size w w' := by
  have HX := Lib.hid hx
  have HY := Lib.hid hy
  have HN := Lib.hid hn
  clear hx hy hn
  go_enter Try.func25, Try.ntmps25
  go_wp2
  go_loopw [5] (fun v5 wr => ∃ k : Int, v5 = .int .i64 k ∧ (0 ≤ k ∧ k ≤ (l.length : Int)) ∧ RowKit.Hid (Below w.heap.size w wr)) (fun v5 _ => ((l.length : Int) - intOf v5).toNat)
  case atStart => exact ⟨0, rfl, ⟨by omega, by omega⟩, Lib.hid (Below.refl _ _)⟩
  case round =>
    obtain ⟨k, rfl, ⟨k0, k1⟩, HB⟩ := hrel
    by_cases hlt : k < (l.length : Int)
    · have c1 : decide (k < (l.length : Int)) = true := decide_eq_true hlt
      have PK := Lib.hid (show 0 ≤ k ∧ k < (l.length : Int) by omega)
      have pK := eq_true k0
      have qK := eq_true hlt
      have wi : wrap64 (k + 1) = k + 1 := by have h2 := HN.out; unfold wrap64; omega
      have wi2 : IntKind.i64.wrap (k + 1) = k + 1 := (i64_w _).trans wi
      have HX2 := Lib.hid (Kd.C_below HX.out HB.out)
      have HY2 := Lib.hid (Kd.C_below HY.out HB.out)
      obtain ⟨ad, eA, -⟩ := at_T39 HX2.out k k0 hlt
      obtain ⟨ae, eD, -⟩ := at_T39 HY2.out k k0 hlt
      cases eA
      cases eD
      obtain ⟨x, ex⟩ : ∃ x, rd_T39 l k = x := ⟨_, rfl⟩
      have EX := Lib.hid ex
      clear k0 k1 hlt ex
      go_upto_region 4 with ((fail))
      refine start_ (n := 9) (S := fun w1 => Below (World.heap wr).size wr w1) (ds := []) (ar 9 0) (by kernel_rfl) rfl rfl (below_drew1 (Below.refl _ _)) (fun hHeld => ?_); refine with_tabW smc.tab4 smc.bits4 (fun HT_ HW_ => ?_)
      replace HB := Lib.hid (below_drew1 HB.out)
      generalize World.drew wr = wz at HB hHeld ⊢
      refine pY 0 (some 18) (ar 9 1) HT_ (h := ?_)
      refine pY 1 (some 19) (ar 9 2) HT_ (h := ?_)
      refine pY 2 (some 20) (ar 9 3) HT_ (h := ?_)
      refine take_ (i := 3) (N := (some 21)) (v := .agg #[.int .i64 x.f0, .int .i64 x.f1, .bool x.f2, .string x.f3, .int .i64 x.f4.f0, .string x.f4.f1, .string x.f4.f2, .int .i64 x.f4.f3, .int .i64 x.f5, .int .i64 x.f6, .int .i64 x.f7.f0, .int .i64 x.f7.f1, .string x.f8.f0, .string x.f8.f1, .int .i64 x.f8.f2, .bool x.f9]) (a' := ?_) (ar 9 4) rfl rfl (take_ofW HT_.out HW_.out (by kernel_rfl)) (fun _ _ _ h => h) (Or.inl ⟨by rfl, fun w1 hs1 => exec_load_p 39 (.tmp 20) rfl (ad.add (k.toNat * 16)) rfl [.int .i64 x.f0, .int .i64 x.f1, .bool x.f2, .string x.f3, .int .i64 x.f4.f0, .string x.f4.f1, .string x.f4.f2, .int .i64 x.f4.f3, .int .i64 x.f5, .int .i64 x.f6, .int .i64 x.f7.f0, .int .i64 x.f7.f1, .string x.f8.f0, .string x.f8.f1, .int .i64 x.f8.f2, .bool x.f9] _ (Eq.mp (by rw [EX.out]; rfl) (row39' (Kd.C_below HX2.out hs1) k PK.out.1 PK.out.2)) Try.underlying39 rfl (by kernel_rfl)⟩) hHeld ?_ ?_; rotate_left; (· simp only [Act.put, List.setIfInBounds_toArray, List.set_cons_zero, List.set_cons_succ, i64_w, i32_w]; rfl)
      refine pY 4 (some 22) (ar 9 5) HT_ (h := ?_)
      refine pY 5 (some 23) (ar 9 6) HT_ (h := ?_)
      refine pY 6 (some 24) (ar 9 7) HT_ (h := ?_)
      refine take_ (i := 7) (N := (some 25)) (v := .agg #[.int .i64 x.f0, .int .i64 x.f1, .bool x.f2, .string x.f3, .int .i64 x.f4.f0, .string x.f4.f1, .string x.f4.f2, .int .i64 x.f4.f3, .int .i64 x.f5, .int .i64 x.f6, .int .i64 x.f7.f0, .int .i64 x.f7.f1, .string x.f8.f0, .string x.f8.f1, .int .i64 x.f8.f2, .bool x.f9]) (a' := ?_) (ar 9 8) rfl rfl (take_ofW HT_.out HW_.out (by kernel_rfl)) (fun _ _ _ h => h) (Or.inl ⟨by rfl, fun w1 hs1 => exec_load_p 39 (.tmp 24) rfl (ae.add (k.toNat * 16)) rfl [.int .i64 x.f0, .int .i64 x.f1, .bool x.f2, .string x.f3, .int .i64 x.f4.f0, .string x.f4.f1, .string x.f4.f2, .int .i64 x.f4.f3, .int .i64 x.f5, .int .i64 x.f6, .int .i64 x.f7.f0, .int .i64 x.f7.f1, .string x.f8.f0, .string x.f8.f1, .int .i64 x.f8.f2, .bool x.f9] _ (Eq.mp (by rw [EX.out]; rfl) (row39' (Kd.C_below HY2.out hs1) k PK.out.1 PK.out.2)) Try.underlying39 rfl (by kernel_rfl)⟩) hHeld ?_ ?_; rotate_left; (· simp only [Act.put, List.setIfInBounds_toArray, List.set_cons_zero, List.set_cons_succ, i64_w, i32_w]; rfl)
      refine pY 8 (some 26) (ar 9 9) HT_ (v := .bool false) (hv := fun w1 => smc_run rfl rfl rfl w1) (h := ?_)
      refine done_ (done_of HT_.out (by kernel_rfl)) ?_
      go_wp2_with ((fail))
      go_roundw
      case rel => exact ⟨k + 1, by first | rfl | go_num, ⟨by have := PK.out; omega, by have := PK.out; omega⟩, HB⟩
      case measure => have := PK.out; simp [intOf]; omega
    · have hnl : decide (k < (l.length : Int)) = false := decide_eq_false hlt
      have ek : k = (l.length : Int) := by omega
      subst ek
      clear k0 k1 hlt
      go_wp2_with ((fail))
      go_ret
      exact ⟨by first | rfl | simp, HB.out⟩
theorem rd_marks (l : List S39) : rd_T39 (l ++ marks) ((l.length : Nat) : Int) = mk0 sM ∧ rd_T39 (l ++ marks) ((l.length + 1 : Nat) : Int) = mk0 sK := by
  unfold rd_T39
  constructor
  · rw [List.getD_eq_getElem?_getD, Int.toNat_natCast, List.getElem?_append_right (Nat.le_refl _), Nat.sub_self]; rfl
  · rw [List.getD_eq_getElem?_getD, Int.toNat_natCast, List.getElem?_append_right (by omega), show l.length + 1 - l.length = 1 by omega]; rfl
theorem mark_cells {w : World} {A' : Option Addr} {l : List S39} {n : Nat} (hn : n = l.length) (hr' : Kd.C k39 w A' (l.length + 2) (l ++ marks)) : ∃ ad, A' = some ad ∧ w.cell? ⟨(ad.add (n * 16)).block, (ad.add (n * 16)).off + 3, none⟩ = some (.string sM) ∧ w.cell? ⟨(ad.add ((n + 1) * 16)).block, (ad.add ((n + 1) * 16)).off + 3, none⟩ = some (.string sK) := by
  subst hn
  obtain ⟨rm, rk⟩ := rd_marks l
  obtain ⟨ad, eA, m0, m1, m2, m3, -⟩ := at_T39 hr' ((l.length : Nat) : Int) (by omega) (by omega)
  obtain ⟨ad', eA', k0, k1, k2, k3, -⟩ := at_T39 hr' ((l.length + 1 : Nat) : Int) (by omega) (by omega)
  obtain rfl : ad = ad' := by rw [eA] at eA'; injection eA'
  rw [rm] at m3
  rw [rk] at k3
  simp only [Int.toNat_natCast] at m3 k3
  exact ⟨ad, eA, m3, k3⟩
set_option maxRecDepth 100000 in
set_option maxHeartbeats 8000000 in
theorem kept (w : World) (A' A : Option Addr) (c' c : Nat) (l : List S39) (hr' : Kd.C k39 w A' (l.length + 2) (l ++ marks)) (hc' : l.length + 2 ≤ c') (hr : Kd.C k39 w A l.length l) (hc : l.length ≤ c) (hl : l.length ≤ 1000000000000) :
    Calls Try.prog 18 #[.slice A' l.length c', .slice A l.length c] w fun e w' => e = .returned (.bool true) ∧ Below w.heap.size w w' := by
  have hC0 : Kd.C k39 w A' l.length l := by
    have hz : Kd.C k39 w A' (l ++ marks).length (l ++ marks) := by rw [List.length_append]; exact hr'
    have h := Kd.C_take hz (m := l.length) (by rw [List.length_append]; omega)
    rw [List.take_left' rfl] at h
    exact h
  have heq := Lib.hid (samec_any w A' A c' c l hC0 hr hl)
  have HR' := Lib.hid hr'
  obtain ⟨ad, eA, -, -⟩ := mark_cells rfl hr'
  cases eA
  have hmx := Kd.C_max hr'
  obtain ⟨n, hn⟩ : ∃ n, RowKit.Hid (n = l.length) := ⟨_, Lib.hid rfl⟩
  rw [← hn.out] at heq hc' hmx hl ⊢
  clear hr' hc hC0 hr
  have p0 : IntKind.i64.wrap ((n : Int) + 2) = ((n + 2 : Nat) : Int) := by rw [i64_w]; unfold wrap64; omega
  have p1 : wrap64 ((n : Int) + 2) = ((n + 2 : Nat) : Int) := by unfold wrap64; omega
  have r0 : IntKind.i64.wrap ((n : Int) + 1) = ((n + 1 : Nat) : Int) := by rw [i64_w]; unfold wrap64; omega
  have r1 : wrap64 ((n : Int) + 1) = ((n + 1 : Nat) : Int) := by unfold wrap64; omega
  have q0 : (0 : Int) ≤ ((n + 2 : Nat) : Int) := by omega
  have q1 : ((n + 2 : Nat) : Int) ≤ (c' : Int) := by omega
  have a0 : (0 : Int) ≤ (n : Int) := by omega
  have a1 : (n : Int) < ((n + 2 : Nat) : Int) := by omega
  have b0 : (0 : Int) ≤ ((n + 1 : Nat) : Int) := by omega
  have b1 : ((n + 1 : Nat) : Int) < ((n + 2 : Nat) : Int) := by omega
  have em : (sM.toList == ([109, 97, 114, 107] : List UInt8)) = true := by rw [ByteArray.toList_eq]; rfl
  have ek : (sK.toList == ([107, 114, 97, 109] : List UInt8)) = true := by rw [ByteArray.toList_eq]; rfl
  go_enter Try.func18, Try.ntmps18
  go_wp2_with (first
    | (go_at_call 25; refine heq.out.mono ?_; rintro e w2 ⟨rfl, hb⟩; have HB := Lib.hid hb; obtain ⟨ad2, e2, m3, k3⟩ := mark_cells hn.out (Kd.C_below HR'.out hb); obtain rfl : ad = ad2 := (by injection e2); clear hb e2)
    | (fail))
  go_ret
  exact ⟨by first | rfl | (simp only [ek]; rfl) | simp [ek], HB.out⟩
end Go.Proofs.Ytbakmkoppieelaa.PLinearChecks

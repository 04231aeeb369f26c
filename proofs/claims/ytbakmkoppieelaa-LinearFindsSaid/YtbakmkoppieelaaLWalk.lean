/- What is proved: the law LinearChecks returns true, of any calls that fit a slice's reach; the condition stands in its theorem. -/
import Derived.Test.YtbakmkoppieelaaLChk
namespace Go.Proofs.Ytbakmkoppieelaa.PLinearChecks
open Go.RowKit Go.Proofs.YtbakmkoppieelaaW.PrintWords Go.Proofs.YtbakmkoppieelaaW.PrintLast Go.Proofs.YtbakmkoppieelaaW.PrintMore
set_option linter.unusedVariables false
set_option linter.unusedSimpArgs false
/-! #### the law's own functions -/
def mk0 (s : ByteArray) : S39 := ⟨0, 0, false, s, ⟨0, ⟨#[]⟩, ⟨#[]⟩, 0⟩, 0, 0, ⟨0, 0⟩, ⟨⟨#[]⟩, ⟨#[]⟩, 0⟩, false⟩
def sM : ByteArray := ⟨#[109, 97, 114, 107]⟩
def sK : ByteArray := ⟨#[107, 114, 97, 109]⟩
def marks : List S39 := [mk0 sM, mk0 sK]
theorem same_l0 (l : List S39) (hl : l.length ≤ 1000000000000) : ∀ (d k : Nat) (i : Int), 0 ≤ i → (l.length : Int) - i = d → 2 * d + 2 ≤ k → hawserlaw26_sameCalls.l0 k l l i = some true := by
  intro d
  induction d with
  | zero =>
    intro k i h0 h1 hk
    obtain ⟨k, rfl⟩ : ∃ m, k = m + 2 := ⟨k - 2, by omega⟩
    simp only [hawserlaw26_sameCalls.l0, hawserlaw26_sameCalls.j1]
    rw [if_neg (by omega)]
    simp
  | succ d ih =>
    intro k i h0 h1 hk
    obtain ⟨k, rfl⟩ : ∃ m, k = m + 2 := ⟨k - 2, by omega⟩
    have hlt : i < (l.length : Int) := by omega
    have hw : wrap64 (i + 1) = i + 1 := by unfold wrap64; omega
    simp only [hawserlaw26_sameCalls.l0, hawserlaw26_sameCalls.j1]
    rw [if_pos hlt, decide_eq_true hlt, if_pos rfl, if_pos h0, if_pos hlt, if_pos hlt, hw, ih k (i + 1) (by omega) (by omega) (by omega)]
    simp
theorem same_refl (l : List S39) (hl : l.length ≤ 1000000000000) : hawserlaw26_sameCalls.f (2 * l.length + 2) l l = some true := same_l0 l hl l.length _ 0 (by omega) (by omega) (Nat.le_refl _)
theorem rd_marks (l : List S39) : rd_T39 (l ++ marks) ((l.length : Nat) : Int) = mk0 sM ∧ rd_T39 (l ++ marks) ((l.length + 1 : Nat) : Int) = mk0 sK := by
  unfold rd_T39
  constructor
  · rw [List.getD_eq_getElem?_getD, Int.toNat_natCast, List.getElem?_append_right (Nat.le_refl _), Nat.sub_self]; rfl
  · rw [List.getD_eq_getElem?_getD, Int.toNat_natCast, List.getElem?_append_right (by omega), show l.length + 1 - l.length = 1 by omega]; rfl
set_option maxRecDepth 100000 in
set_option maxHeartbeats 8000000 in
theorem kept (w : World) (A' A : Option Addr) (c' c : Nat) (l : List S39) (hr' : Kd.C k39 w A' (l.length + 2) (l ++ marks)) (hc' : l.length + 2 ≤ c') (hr : Kd.C k39 w A l.length l) (hc : l.length ≤ c) (hl : l.length ≤ 1000000000000) :
    Calls Try.prog 18 #[.slice A' l.length c', .slice A l.length c] w fun e w' => e = .returned (.bool true) ∧ Below w.heap.size w w' := by
  have hC0 : Kd.C k39 w A' l.length l := by
    have hz : Kd.C k39 w A' (l ++ marks).length (l ++ marks) := by rw [List.length_append]; exact hr'
    have h := Kd.C_take hz (m := l.length) (by rw [List.length_append]; omega)
    rw [List.take_left' rfl] at h
    exact h
  have heq := Lib.hid (hawserlaw26_sameCalls.calls (2 * l.length + 2) A' c' l A c l true w hC0 (by omega) hr hc (same_refl l hl))
  obtain ⟨rm, rk⟩ := rd_marks l
  obtain ⟨ad, eA, m0, m1, m2, m3, m4, m5, m6, m7, m8, m9, m10, m11, m12, m13, m14, m15⟩ := at_T39 hr' ((l.length : Nat) : Int) (by omega) (by omega)
  obtain ⟨ad', eA', k0, k1, k2, k3, k4, k5, k6, k7, k8, k9, k10, k11, k12, k13, k14, k15⟩ := at_T39 hr' ((l.length + 1 : Nat) : Int) (by omega) (by omega)
  obtain rfl : ad = ad' := by rw [eA] at eA'; injection eA'
  rw [rm] at m3
  rw [rk] at k3
  simp only [Int.toNat_natCast] at m3 k3
  cases eA
  clear m0 m1 m2 m4 m5 m6 m7 m8 m9 m10 m11 m12 m13 m14 m15 k0 k1 k2 k4 k5 k6 k7 k8 k9 k10 k11 k12 k13 k14 k15 eA' rm rk hC0 hr
  have hmx := Kd.C_max hr'
  obtain ⟨n, hn⟩ : ∃ n, RowKit.Hid (n = l.length) := ⟨_, Lib.hid rfl⟩
  rw [← hn.out] at heq hc' hmx m3 k3 hl ⊢
  clear hr' hc
  replace m3 : w.cell? ⟨(ad.add (n * 16)).block, (ad.add (n * 16)).off + 3, none⟩ = some (.string sM) := m3
  replace k3 : w.cell? ⟨(ad.add ((n + 1) * 16)).block, (ad.add ((n + 1) * 16)).off + 3, none⟩ = some (.string sK) := k3
  have p0 : IntKind.i64.wrap ((n : Int) + 2) = ((n + 2 : Nat) : Int) := by rw [i64_w]; unfold wrap64; omega
  have p1 : wrap64 ((n : Int) + 2) = ((n + 2 : Nat) : Int) := by unfold wrap64; omega
  have r0 : IntKind.i64.wrap ((n : Int) + 1) = ((n + 1 : Nat) : Int) := by rw [i64_w]; unfold wrap64; omega
  have r1 : wrap64 ((n : Int) + 1) = ((n + 1 : Nat) : Int) := by unfold wrap64; omega
  have q0 : (0 : Int) ≤ ((n + 2 : Nat) : Int) := by omega
  have q1 : ((n + 2 : Nat) : Int) ≤ (c' : Int) := by omega
  have a0 : (0 : Int) ≤ (n : Int) := by omega
  have a1 : (n : Int) < ((n + 2 : Nat) : Int) := by omega
  have b0 : (0 : Int) ≤ ((n + 1 : Nat) : Int) := by omega
  have b1 : ((n + 1 : Nat) : Int) < ((n + 2 : Nat) : Int) := by omega
  have em : (sM.toList == ([109, 97, 114, 107] : List UInt8)) = true := by rw [ByteArray.toList_eq]; rfl
  have ek : (sK.toList == ([107, 114, 97, 109] : List UInt8)) = true := by rw [ByteArray.toList_eq]; rfl
  go_enter Try.func18, Try.ntmps18
  go_wp2_with (first
    | (go_at_call 25; refine heq.out.mono ?_; rintro e w2 ⟨rfl, ⟨nd, rfl⟩⟩)
    | (fail))
  go_ret
  exact ⟨by first | rfl | (simp only [ek]; rfl) | simp [ek], by first | exact Below.refl _ _ | exact pw_below_drewN (Below.refl _ _) _⟩
def precB (c d : S39) : Bool := c.f6 != -1 && decide (c.f6 < d.f5)
theorem prec1 (c d : S39) (W : World) : Calls Try.prog 19 #[.agg #[.int .i64 c.f0, .int .i64 c.f1, .bool c.f2, .string c.f3, .int .i64 c.f4.f0, .string c.f4.f1, .string c.f4.f2, .int .i64 c.f4.f3, .int .i64 c.f5, .int .i64 c.f6, .int .i64 c.f7.f0, .int .i64 c.f7.f1, .string c.f8.f0, .string c.f8.f1, .int .i64 c.f8.f2, .bool c.f9], .agg #[.int .i64 d.f0, .int .i64 d.f1, .bool d.f2, .string d.f3, .int .i64 d.f4.f0, .string d.f4.f1, .string d.f4.f2, .int .i64 d.f4.f3, .int .i64 d.f5, .int .i64 d.f6, .int .i64 d.f7.f0, .int .i64 d.f7.f1, .string d.f8.f0, .string d.f8.f1, .int .i64 d.f8.f2, .bool d.f9]] W fun e w' => e = .returned (.bool (precB c d)) ∧ Below W.heap.size W w' := by
  refine linear_Precedes.calls c.f0 c.f1 c.f2 c.f3 c.f4.f0 c.f4.f1 c.f4.f2 c.f4.f3 c.f5 c.f6 c.f7.f0 c.f7.f1 c.f8.f0 c.f8.f1 c.f8.f2 c.f9 d.f0 d.f1 d.f2 d.f3 d.f4.f0 d.f4.f1 d.f4.f2 d.f4.f3 d.f5 d.f6 d.f7.f0 d.f7.f1 d.f8.f0 d.f8.f1 d.f8.f2 d.f9 (precB c d) W ?_
  unfold linear_Precedes.f linear_answered.f precB
  cases (c.f6 != -1) <;> rfl
def ownC : S39 := ⟨1, 1, false, ⟨#[97]⟩, ⟨1, ⟨#[97]⟩, ⟨#[120]⟩, 0⟩, 0, 1, ⟨1, 1⟩, ⟨⟨#[]⟩, ⟨#[]⟩, 0⟩, false⟩
theorem own_ok : refF [ownC] = 0 := by
  have hm : mayB ownC = true := by
    unfold mayB mayB16 updB opB usrB rowZ ownC
    simp only [ByteArray.toList_eq]
    decide
  refine refF_ok (fun i i0 i1 => ?_)
  have hi : i = 0 := by simp at i1; omega
  subst hi
  have e : rd_T39 [ownC] 0 = ownC := rfl
  refine ⟨by unfold bad1; rw [e, hm]; rfl, fun k k0 k1 => ?_⟩
  have hk : k = 0 := by simp at k1; omega
  subst hk
  exact ⟨by unfold bad2; rfl, by unfold bad3; rfl⟩
theorem own_wf : ∀ x ∈ [ownC], wfC x := by
  intro x hx
  rw [List.mem_singleton] at hx
  subst hx
  exact ⟨rfl, rfl⟩
end Go.Proofs.Ytbakmkoppieelaa.PLinearChecks

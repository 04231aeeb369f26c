/- What is proved: the law LinearChecks returns true, of any calls that fit a slice's reach; the condition stands in its theorem. -/
import Derived.Test.YtbakmkoppieelaaLChk
namespace Go.Proofs.Ytbakmkoppieelaa.PLinearChecks
open Go.RowKit Go.Proofs.YtbakmkoppieelaaW.PrintWords Go.Proofs.YtbakmkoppieelaaW.PrintLast Go.Proofs.YtbakmkoppieelaaW.PrintMore
set_option linter.unusedVariables false
set_option linter.unusedSimpArgs false
/-! #### the law's own functions -/
def mk0 (s : ByteArray) : S39 := ⟨0, 0, false, s, ⟨0, ⟨#[]⟩, ⟨#[]⟩, 0⟩, 0, 0, ⟨0, 0⟩, ⟨⟨#[]⟩, ⟨#[]⟩, 0⟩, false⟩
def sM : ByteArray := ⟨#[109, 97, 114, 107]⟩
def sK : ByteArray := ⟨#[107, 114, 97, 109]⟩
def marks : List S39 := [mk0 sM, mk0 sK]
def inn (s : ByteArray) : List Value := [.int .i64 0, .int .i64 0, .bool false, .string s, .int .i64 0, .string ⟨#[]⟩, .string ⟨#[]⟩, .int .i64 0, .int .i64 0, .int .i64 0, .int .i64 0, .int .i64 0, .string ⟨#[]⟩, .string ⟨#[]⟩, .int .i64 0, .bool false]
theorem marks_rep (W : World) (base : Nat) : Reps (k39.M W base (fun _ => True)) k39.sz marks (inn sM ++ inn sK) :=
  Reps.front (show Kd.M k39 _ _ _ (mk0 sM) (inn sM) from k39_mkM _ _ _ (mk0 sM)) rfl (Reps.front (show Kd.M k39 _ _ _ (mk0 sK) (inn sK) from k39_mkM _ _ _ (mk0 sK)) rfl (Reps.none _ _) (by simp)) rfl
theorem lit_R (W : World) : Kd.R k39 39 (W.alloc (.cells (inn sM ++ inn sK).toArray 39)) W.heap.size (fun _ => True) (.slice (some ⟨W.heap.size, 0, none⟩) 2 2) marks := by
  refine ⟨fun k hk => trivial, inn sM ++ inn sK, ?_, ?_⟩
  · have h2 := World.ownsRow_lit (base := W.heap.size) (e := 39) (size := k39.sz) W (inn sM ++ inn sK).toArray 2 (Nat.le_refl _) (by decide) (by rfl)
    have h3 : (W.alloc (.cells (inn sM ++ inn sK).toArray 39)).ownsRow W.heap.size 39 k39.sz (.slice (some ⟨W.heap.size, 0, none⟩) 2 2) 2 (inn sM ++ inn sK) := by simpa using h2
    exact h3
  · refine (marks_rep W W.heap.size).imp_ (fun p c hp => k39.M_mono (fun k hk => ⟨trivial, fun he => ?_⟩) (Kd.M_below (k39.M_bound hp) (below_alloc (Below.refl _ _) _)))
    have h3 : k = W.heap.size := by simpa [Value.ownBlock] using he
    have := hk.2.2.1
    omega
theorem lit_C (W : World) : Kd.C k39 (W.alloc (.cells (inn sM ++ inn sK).toArray 39)) (some ⟨W.heap.size, 0, none⟩) 2 marks := (Kd.R_reads' (lit_R W)).2.2
set_option maxRecDepth 100000 in
set_option maxHeartbeats 8000000 in
theorem roomy (w : World) (A : Option Addr) (c : Nat) (l : List S39) (hr : Kd.C k39 w A l.length l) (hc : l.length ≤ c) (hl : (l.length + 2) * 168 ≤ 140737488355328) :
    Calls Try.prog 14 #[.slice A l.length c] w fun e w' => ∃ A' c', e = .returned (.slice A' l.length c') ∧ l.length + 2 ≤ c' ∧ Kd.R k39 39 w' w.heap.size (fun _ => True) (.slice A' (l.length + 2) c') (l ++ marks) ∧ Below w.heap.size w w' := by
  have R := Lib.hid (And.intro hr hl)
  obtain ⟨n, hn⟩ : ∃ n, RowKit.Hid (n = l.length) := ⟨_, Lib.hid rfl⟩
  have hrn : RowKit.Hid (Kd.C k39 w A n l) := Lib.hid (by rw [hn.out]; exact hr)
  rw [← hn.out] at hc ⊢
  clear hr hl
  go_enter Try.func14, Try.ntmps14
  go_upto_region 2 with (first
    | ((with_reducible refine gate_dst (N := 5) rfl ?_); refine Kd.R_append_rows k39 (Rr := k39.K w) (w0 := w) w.heap.size rfl (.const (.slice none 0 0)) (.tmp 4) 22 39 (.agg #[.int .i64 0, .int .i64 0, .bool false, .string ⟨#[]⟩, .int .i64 0, .string ⟨#[]⟩, .string ⟨#[]⟩, .int .i64 0, .int .i64 0, .int .i64 0, .int .i64 0, .int .i64 0, .string ⟨#[]⟩, .string ⟨#[]⟩, .int .i64 0, .bool false]) 168 rfl Try.underlying22 info39 rfl (by decide) (by decide) (.slice none 0 0) [] l A n c (fun _ => True) (fun _ => False) rfl rfl (Kd.R_nil _ _ _ _ _) hrn.out (fun x cs h => by rw [k39_open h]; exact k39_mkM _ _ _ x) (fun _ h => h.elim) (fun _ _ => trivial) (Below.refl _ _) (Nat.le_refl _) (by have h1 := hn.out; have h2 := R.out.2; simp; omega) ?_; intro v1 w1 hR1 hb1 hg1 hat1; rw [List.nil_append] at hR1; have F1 := Lib.hid (And.intro hR1 hb1); obtain ⟨A1, c1, rfl, hc1, -⟩ := Kd.R_reads hR1; rw [← hn.out]; clear hR1 hb1 hg1 hat1 hc1)
    | ((with_reducible refine gate_dst (N := 9) rfl ?_); refine Kd.R_append_rows k39 (Rr := k39.K (w1.alloc (.cells (inn sM ++ inn sK).toArray 39))) (w0 := w) w.heap.size rfl (.tmp 5) (.tmp 8) 22 39 (.agg #[.int .i64 0, .int .i64 0, .bool false, .string ⟨#[]⟩, .int .i64 0, .string ⟨#[]⟩, .string ⟨#[]⟩, .int .i64 0, .int .i64 0, .int .i64 0, .int .i64 0, .int .i64 0, .string ⟨#[]⟩, .string ⟨#[]⟩, .int .i64 0, .bool false]) 168 rfl Try.underlying22 info39 rfl (by decide) (by decide) (.slice A1 n c1) l marks (some ⟨w1.heap.size, 0, none⟩) 2 2 (fun _ => True) (fun _ => False) rfl rfl ?h1 (lit_C w1) (fun x cs h => by rw [k39_open h]; exact k39_mkM _ _ _ x) (fun _ h => h.elim) (fun _ _ => trivial) ?h2 ?h3 (by have h1 := hn.out; have h2 := R.out.2; simp; omega) ?_; (case h1 => have h := Kd.R_alloc F1.out.1 (.cells (inn sM ++ inn sK).toArray 39); rw [← hn.out] at h; exact h); (case h2 => exact F1.out.2.alloc F1.out.2.size _); (case h3 => have h := F1.out.2.size; simp; omega); intro v3 w3 hR3 hb3 hg3 hat3; have F3 := Lib.hid (And.intro hR3 hb3); obtain ⟨A3, c3, rfl, hc3, -⟩ := Kd.R_reads hR3; have K3 := Lib.hid hc3; clear hR3 hb3 hg3 hat3 hc3)
    | (fail))
  have e2 : (l ++ marks).length = n + 2 := by rw [List.length_append, hn.out]; rfl
  have hc3 : n + 2 ≤ c3 := by have h := K3.out; rw [e2] at h; exact h
  have F4 : RowKit.Hid (Kd.R k39 39 w3 w.heap.size (fun _ => True) (.slice A3 (n + 2) c3) (l ++ marks)) := Lib.hid (by have h := F3.out.1; rw [e2] at h; exact h)
  have q0 : (0 : Int) ≤ (n : Int) := by omega
  have q1 : (n : Int) ≤ (c3 : Int) := by omega
  clear e2
  go_wp2_with (fail)
  go_ret
  exact ⟨_, _, rfl, hc3, F4.out, F3.out.2⟩
theorem same_l0 (l : List S39) (hl : l.length ≤ 1000000000000) : ∀ (d k : Nat) (i : Int), 0 ≤ i → (l.length : Int) - i = d → 2 * d + 2 ≤ k → hawserlaw26_sameCalls.l0 k l l i = some true := by
  intro d
  induction d with
  | zero =>
    intro k i h0 h1 hk
    obtain ⟨k, rfl⟩ : ∃ m, k = m + 2 := ⟨k - 2, by omega⟩
    simp only [hawserlaw26_sameCalls.l0, hawserlaw26_sameCalls.j1]
    rw [if_neg (by omega)]
    simp
  | succ d ih =>
    intro k i h0 h1 hk
    obtain ⟨k, rfl⟩ : ∃ m, k = m + 2 := ⟨k - 2, by omega⟩
    have hlt : i < (l.length : Int) := by omega
    have hw : wrap64 (i + 1) = i + 1 := by unfold wrap64; omega
    simp only [hawserlaw26_sameCalls.l0, hawserlaw26_sameCalls.j1]
    rw [if_pos hlt, decide_eq_true hlt, if_pos rfl, if_pos h0, if_pos hlt, if_pos hlt, hw, ih k (i + 1) (by omega) (by omega) (by omega)]
    simp
theorem same_refl (l : List S39) (hl : l.length ≤ 1000000000000) : hawserlaw26_sameCalls.f (2 * l.length + 2) l l = some true := same_l0 l hl l.length _ 0 (by omega) (by omega) (Nat.le_refl _)
theorem rd_marks (l : List S39) : rd_T39 (l ++ marks) ((l.length : Nat) : Int) = mk0 sM ∧ rd_T39 (l ++ marks) ((l.length + 1 : Nat) : Int) = mk0 sK := by
  unfold rd_T39
  constructor
  · rw [List.getD_eq_getElem?_getD, Int.toNat_natCast, List.getElem?_append_right (Nat.le_refl _), Nat.sub_self]; rfl
  · rw [List.getD_eq_getElem?_getD, Int.toNat_natCast, List.getElem?_append_right (by omega), show l.length + 1 - l.length = 1 by omega]; rfl
set_option maxRecDepth 100000 in
set_option maxHeartbeats 8000000 in
theorem kept (w : World) (A' A : Option Addr) (c' c : Nat) (l : List S39) (hr' : Kd.C k39 w A' (l.length + 2) (l ++ marks)) (hc' : l.length + 2 ≤ c') (hr : Kd.C k39 w A l.length l) (hc : l.length ≤ c) (hl : l.length ≤ 1000000000000) :
    Calls Try.prog 18 #[.slice A' l.length c', .slice A l.length c] w fun e w' => e = .returned (.bool true) ∧ Below w.heap.size w w' := by
  have hC0 : Kd.C k39 w A' l.length l := by
    have hz : Kd.C k39 w A' (l ++ marks).length (l ++ marks) := by rw [List.length_append]; exact hr'
    have h := Kd.C_take hz (m := l.length) (by rw [List.length_append]; omega)
    rw [List.take_left' rfl] at h
    exact h
  have heq := Lib.hid (hawserlaw26_sameCalls.calls (2 * l.length + 2) A' c' l A c l true w hC0 (by omega) hr hc (same_refl l hl))
  obtain ⟨rm, rk⟩ := rd_marks l
  obtain ⟨ad, eA, m0, m1, m2, m3, m4, m5, m6, m7, m8, m9, m10, m11, m12, m13, m14, m15⟩ := at_T39 hr' ((l.length : Nat) : Int) (by omega) (by omega)
  obtain ⟨ad', eA', k0, k1, k2, k3, k4, k5, k6, k7, k8, k9, k10, k11, k12, k13, k14, k15⟩ := at_T39 hr' ((l.length + 1 : Nat) : Int) (by omega) (by omega)
  obtain rfl : ad = ad' := by rw [eA] at eA'; injection eA'
  rw [rm] at m3
  rw [rk] at k3
  simp only [Int.toNat_natCast] at m3 k3
  cases eA
  clear m0 m1 m2 m4 m5 m6 m7 m8 m9 m10 m11 m12 m13 m14 m15 k0 k1 k2 k4 k5 k6 k7 k8 k9 k10 k11 k12 k13 k14 k15 eA' rm rk hC0 hr
  have hmx := Kd.C_max hr'
  obtain ⟨n, hn⟩ : ∃ n, RowKit.Hid (n = l.length) := ⟨_, Lib.hid rfl⟩
  rw [← hn.out] at heq hc' hmx m3 k3 hl ⊢
  clear hr' hc
  replace m3 : w.cell? ⟨(ad.add (n * 16)).block, (ad.add (n * 16)).off + 3, none⟩ = some (.string sM) := m3
  replace k3 : w.cell? ⟨(ad.add ((n + 1) * 16)).block, (ad.add ((n + 1) * 16)).off + 3, none⟩ = some (.string sK) := k3
  have p0 : IntKind.i64.wrap ((n : Int) + 2) = ((n + 2 : Nat) : Int) := by rw [i64_w]; unfold wrap64; omega
  have p1 : wrap64 ((n : Int) + 2) = ((n + 2 : Nat) : Int) := by unfold wrap64; omega
  have r0 : IntKind.i64.wrap ((n : Int) + 1) = ((n + 1 : Nat) : Int) := by rw [i64_w]; unfold wrap64; omega
  have r1 : wrap64 ((n : Int) + 1) = ((n + 1 : Nat) : Int) := by unfold wrap64; omega
  have q0 : (0 : Int) ≤ ((n + 2 : Nat) : Int) := by omega
  have q1 : ((n + 2 : Nat) : Int) ≤ (c' : Int) := by omega
  have a0 : (0 : Int) ≤ (n : Int) := by omega
  have a1 : (n : Int) < ((n + 2 : Nat) : Int) := by omega
  have b0 : (0 : Int) ≤ ((n + 1 : Nat) : Int) := by omega
  have b1 : ((n + 1 : Nat) : Int) < ((n + 2 : Nat) : Int) := by omega
  have em : (sM.toList == ([109, 97, 114, 107] : List UInt8)) = true := by rw [ByteArray.toList_eq]; rfl
  have ek : (sK.toList == ([107, 114, 97, 109] : List UInt8)) = true := by rw [ByteArray.toList_eq]; rfl
  go_enter Try.func18, Try.ntmps18
  go_wp2_with (first
    | (go_at_call 25; refine heq.out.mono ?_; rintro e w2 ⟨rfl, ⟨nd, rfl⟩⟩)
    | (fail))
  go_ret
  exact ⟨by first | rfl | (simp only [ek]; rfl) | simp [ek], by first | exact Below.refl _ _ | exact pw_below_drewN (Below.refl _ _) _⟩
def precB (c d : S39) : Bool := c.f6 != -1 && decide (c.f6 < d.f5)
theorem prec1 (c d : S39) (W : World) : Calls Try.prog 19 #[.agg #[.int .i64 c.f0, .int .i64 c.f1, .bool c.f2, .string c.f3, .int .i64 c.f4.f0, .string c.f4.f1, .string c.f4.f2, .int .i64 c.f4.f3, .int .i64 c.f5, .int .i64 c.f6, .int .i64 c.f7.f0, .int .i64 c.f7.f1, .string c.f8.f0, .string c.f8.f1, .int .i64 c.f8.f2, .bool c.f9], .agg #[.int .i64 d.f0, .int .i64 d.f1, .bool d.f2, .string d.f3, .int .i64 d.f4.f0, .string d.f4.f1, .string d.f4.f2, .int .i64 d.f4.f3, .int .i64 d.f5, .int .i64 d.f6, .int .i64 d.f7.f0, .int .i64 d.f7.f1, .string d.f8.f0, .string d.f8.f1, .int .i64 d.f8.f2, .bool d.f9]] W fun e w' => e = .returned (.bool (precB c d)) ∧ Below W.heap.size W w' := by
  refine linear_Precedes.calls c.f0 c.f1 c.f2 c.f3 c.f4.f0 c.f4.f1 c.f4.f2 c.f4.f3 c.f5 c.f6 c.f7.f0 c.f7.f1 c.f8.f0 c.f8.f1 c.f8.f2 c.f9 d.f0 d.f1 d.f2 d.f3 d.f4.f0 d.f4.f1 d.f4.f2 d.f4.f3 d.f5 d.f6 d.f7.f0 d.f7.f1 d.f8.f0 d.f8.f1 d.f8.f2 d.f9 (precB c d) W ?_
  unfold linear_Precedes.f linear_answered.f precB
  cases (c.f6 != -1) <;> rfl
theorem prec2 (c d : S39) (W : World) : Calls Try.prog 20 #[.agg #[.int .i64 c.f0, .int .i64 c.f1, .bool c.f2, .string c.f3, .int .i64 c.f4.f0, .string c.f4.f1, .string c.f4.f2, .int .i64 c.f4.f3, .int .i64 c.f5, .int .i64 c.f6, .int .i64 c.f7.f0, .int .i64 c.f7.f1, .string c.f8.f0, .string c.f8.f1, .int .i64 c.f8.f2, .bool c.f9], .agg #[.int .i64 d.f0, .int .i64 d.f1, .bool d.f2, .string d.f3, .int .i64 d.f4.f0, .string d.f4.f1, .string d.f4.f2, .int .i64 d.f4.f3, .int .i64 d.f5, .int .i64 d.f6, .int .i64 d.f7.f0, .int .i64 d.f7.f1, .string d.f8.f0, .string d.f8.f1, .int .i64 d.f8.f2, .bool d.f9]] W fun e w' => e = .returned (.bool (precB c d)) ∧ Below W.heap.size W w' := by
  refine hawserref26_Precedes.calls c.f0 c.f1 c.f2 c.f3 c.f4.f0 c.f4.f1 c.f4.f2 c.f4.f3 c.f5 c.f6 c.f7.f0 c.f7.f1 c.f8.f0 c.f8.f1 c.f8.f2 c.f9 d.f0 d.f1 d.f2 d.f3 d.f4.f0 d.f4.f1 d.f4.f2 d.f4.f3 d.f5 d.f6 d.f7.f0 d.f7.f1 d.f8.f0 d.f8.f1 d.f8.f2 d.f9 (precB c d) W ?_
  unfold hawserref26_Precedes.f hawserref26_answered.f precB
  cases (c.f6 != -1) <;> rfl
def ownC : S39 := ⟨1, 1, false, ⟨#[97]⟩, ⟨1, ⟨#[97]⟩, ⟨#[120]⟩, 0⟩, 0, 1, ⟨1, 1⟩, ⟨⟨#[]⟩, ⟨#[]⟩, 0⟩, false⟩
theorem own_ok : refF [ownC] = 0 := by
  have hm : mayB ownC = true := by
    unfold mayB mayB16 updB opB usrB rowZ ownC
    simp only [ByteArray.toList_eq]
    decide
  refine refF_ok (fun i i0 i1 => ?_)
  have hi : i = 0 := by simp at i1; omega
  subst hi
  have e : rd_T39 [ownC] 0 = ownC := rfl
  refine ⟨by unfold bad1; rw [e, hm]; rfl, fun k k0 k1 => ?_⟩
  have hk : k = 0 := by simp at k1; omega
  subst hk
  exact ⟨by unfold bad2; rfl, by unfold bad3; rfl⟩
theorem own_wf : ∀ x ∈ [ownC], wfC x := by
  intro x hx
  rw [List.mem_singleton] at hx
  subst hx
  exact ⟨rfl, rfl⟩
def llaw.T10 : Bool × List (List Nat × List Nat) := (true, [([], []), ([], []), ([0, 1], [0, 1]), ([2], [2]), ([], []), ([], []), ([4, 5], [4, 5]), ([6], [6]), ([3, 7], [3, 7]), ([], []), ([], []), ([9, 10], [9, 10]), ([11], [11]), ([], []), ([], []), ([13, 14], [13, 14]), ([15], [15]), ([12, 16, 8], [12, 16]), ([8, 17], [8, 17])])
def llaw.B10 : List Nat := [0, 0, 3, 7, 0, 0, 48, 112, 255, 0, 0, 1536, 3584, 0, 0, 24576, 57344, 131071, 262143]
theorem llaw.tab10 : rtab .any (opsOf Try.f3 10) = llaw.T10 := by kernel_rfl
theorem llaw.bits10 : waitsOk llaw.T10.2 llaw.B10 = true := by kernel_rfl
set_option maxHeartbeats 64000000 in
set_option maxRecDepth 100000 in
theorem checks_walk (w : World) (A : Option Addr) (c : Nat) (l : List S39) (hr : Kd.C k39 w A l.length l) (hc : l.length ≤ c) (hn : l.length * 168 ≤ 140737488351232) (hwf : ∀ x ∈ l, wfC x) :
    Calls Try.prog 3 #[.slice A l.length c] w fun e w' => e = .returned (.bool true) ∧ Below w.heap.size w w' := by
  have hu39 := Try.underlying39
  have HR := Lib.hid hr
  have HN := Lib.hid (show l.length ≤ 1000000000000 ∧ (l.length + 2) * 168 ≤ 140737488355328 by omega)
  have HF := Lib.hid hwf
  have HC := Lib.hid hc
  have RM := Lib.hid (roomy w A c l hr hc HN.out.2)
  have OWN := Lib.hid (fun W => hawserlaw26_own.calls [ownC] W rfl)
  obtain ⟨q, hq⟩ : ∃ q, RowKit.Hid (q = refF l) := ⟨_, Lib.hid rfl⟩
  clear hr hn hwf hc
  go_enter Try.func3, Try.ntmps3
  go_wp2_with (first
    | (go_at_call 14; refine RM.out.mono ?_; rintro e w1 ⟨A', c', rfl, hc1, hR1, hb1⟩; have F1 := Lib.hid (And.intro hc1 (And.intro (Kd.R_reads' hR1).2.2 hb1)); clear hc1 hR1 hb1)
    | (go_at_call 16; refine (lcheck_any w1 A' c' l (by have h := Kd.C_take F1.out.2.1 (m := l.length) (by rw [List.length_append]; omega); rw [List.take_left' rfl] at h; exact h) (by have := F1.out.1; omega) HN.out.1 HF.out).mono ?_; rw [← hq.out]; rintro e w2 ⟨rfl, hb2⟩; have F2 := Lib.hid (F1.out.2.2.trans (hb2.mono F1.out.2.2.size)); have G2 := Lib.hid hb2; clear hb2)
    | (go_at_call 15; refine (hawserlaw26_num.calls q q w2 rfl).mono ?_; rintro e w3 ⟨rfl, ⟨nd, rfl⟩⟩)
    | (go_at_call 17; refine (rcheck_any _ A c l (Kd.C_below HR.out (pw_below_drewN F2.out nd)) HC.out (by have := HN.out.1; omega)).mono ?_; rw [← hq.out]; rintro e w4 ⟨rfl, hb4⟩; have F4 := Lib.hid (below_step (pw_below_drewN F2.out nd) hb4); have G4 := Lib.hid (below_step (pw_below_drewN G2.out nd) hb4); clear hb4)
    | (go_at_call 18; refine (kept w4 A' A c' c l (by have h := Kd.C_below F1.out.2.1 G4.out; rw [List.length_append] at h; exact h) F1.out.1 (Kd.C_below HR.out F4.out) HC.out HN.out.1).mono ?_; rintro e w5 ⟨rfl, hb5⟩; have F5 := Lib.hid (below_step F4.out hb5); clear hb5)
    | (fail))
  go_loopw [4] (fun v4 wr => ∃ i : Int, v4 = .int .i64 i ∧ (0 ≤ i ∧ i ≤ (l.length : Int)) ∧ RowKit.Hid (Below w.heap.size w wr)) (fun v4 _ => ((l.length : Int) - intOf v4).toNat)
  case atStart => exact ⟨0, rfl, ⟨by omega, by omega⟩, F5⟩
  case round =>
    obtain ⟨i, rfl, ⟨i0, i1⟩, HB⟩ := hrel
    by_cases hlt : i < (l.length : Int)
    · have c1 : decide (i < (l.length : Int)) = true := decide_eq_true hlt
      have PI := Lib.hid (show 0 ≤ i ∧ i < (l.length : Int) from ⟨i0, hlt⟩)
      go_wp2
      go_loopw [5] (fun v5 wr => ∃ k : Int, v5 = .int .i64 k ∧ (0 ≤ k ∧ k ≤ (l.length : Int)) ∧ RowKit.Hid (Below w.heap.size w wr)) (fun v5 _ => ((l.length : Int) - intOf v5).toNat)
      case atStart => exact ⟨0, rfl, ⟨by omega, by omega⟩, HB⟩
      case round =>
        clear HB
        obtain ⟨k, rfl, ⟨k0, k1⟩, HB⟩ := hrel
        by_cases hk : k < (l.length : Int) ∧ k < 8
        · have c2 : decide (k < (l.length : Int)) = true := decide_eq_true hk.1
          have c3 : decide (k < 8) = true := decide_eq_true hk.2
          have PK := Lib.hid (show 0 ≤ k ∧ k < (l.length : Int) from ⟨k0, hk.1⟩)
          go_upto_region 10 with (fail)
          go_cut [54] (fun v54 wc => v54 = .bool false ∧ RowKit.Hid (Below w.heap.size w wc))
          case first =>
            have pI := eq_true PI.out.1
            have qI := eq_true PI.out.2
            have pK := eq_true PK.out.1
            have qK := eq_true PK.out.2
            obtain ⟨ad, eA, -⟩ := at_T39 HR.out i PI.out.1 PI.out.2
            cases eA
            obtain ⟨pb, hpb⟩ : ∃ pb, RowKit.Hid (pb = precB (rd_T39 l i) (rd_T39 l k)) := ⟨_, Lib.hid rfl⟩
            have HP := Lib.hid (fun W => prec1 (rd_T39 l i) (rd_T39 l k) W)
            have HQ := Lib.hid (fun W => prec2 (rd_T39 l i) (rd_T39 l k) W)
            rw [← hpb.out] at HP HQ
            clear i0 i1 hlt k0 k1 hk
            as_aux_lemma =>
              refine start_ (n := 19) (S := fun w1 => Below w.heap.size w w1) (ds := []) (ar 19 0) (by kernel_rfl) rfl rfl (below_drew1 HB.out) (fun hHeld => ?_); refine with_tabW llaw.tab10 llaw.bits10 (fun HT_ HW_ => ?_)
              replace HB := Lib.hid (below_drew1 HB.out)
              generalize hwz : wr.drew = wz at HB hHeld ⊢
              clear hwz
              refine pure_ (i := 0) (N := (some 36)) (v := ?_) (a' := ?_) (ar 19 1) rfl rfl (any_of HT_.out (by kernel_rfl)) (fun _ _ _ h => h) (Or.inl ⟨by rfl, ?_⟩) ?_ ?_; rotate_left; (· intro w1; go_simp; with_reducible rfl); rotate_left; (· simp only [Act.put, List.setIfInBounds_toArray, List.set_cons_zero, List.set_cons_succ, i64_w, i32_w]; rfl)
              refine pure_ (i := 1) (N := (some 37)) (v := ?_) (a' := ?_) (ar 19 2) rfl rfl (any_of HT_.out (by kernel_rfl)) (fun _ _ _ h => h) (Or.inl ⟨by rfl, ?_⟩) ?_ ?_; rotate_left; (· intro w1; go_simp; with_reducible rfl); rotate_left; (· simp only [Act.put, List.setIfInBounds_toArray, List.set_cons_zero, List.set_cons_succ, i64_w, i32_w]; rfl)
              refine pure_ (i := 2) (N := (some 38)) (v := ?_) (a' := ?_) (ar 19 3) rfl rfl (any_of HT_.out (by kernel_rfl)) (fun _ _ _ h => h) (Or.inl ⟨by rfl, ?_⟩) ?_ ?_; rotate_left; (· intro w1; go_simp; with_reducible rfl); rotate_left; (· simp only [Act.put, List.setIfInBounds_toArray, List.set_cons_zero, List.set_cons_succ, i64_w, i32_w]; rfl)
              refine take_ (i := 3) (N := (some 39)) (v := ?_) (a' := ?_) (ar 19 4) rfl rfl (take_ofW HT_.out HW_.out (by kernel_rfl)) (fun _ _ _ h => h) (Or.inl ⟨by rfl, ?_⟩) hHeld ?_ ?_; rotate_left; (· rintro w1 hs1; obtain ⟨adI, eI, xI_0, xI_1, xI_2, xI_3, xI_4, xI_5, xI_6, xI_7, xI_8, xI_9, xI_10, xI_11, xI_12, xI_13, xI_14, xI_15⟩ := at_T39 (Kd.C_below HR.out hs1) i PI.out.1 PI.out.2; obtain rfl : ad = adI := (by injection eI); obtain ⟨adK, eK, xK_0, xK_1, xK_2, xK_3, xK_4, xK_5, xK_6, xK_7, xK_8, xK_9, xK_10, xK_11, xK_12, xK_13, xK_14, xK_15⟩ := at_T39 (Kd.C_below HR.out hs1) k PK.out.1 PK.out.2; obtain rfl : ad = adK := (by injection eK); clear hs1; go_simp; with_reducible rfl); rotate_left; (· simp only [Act.put, List.setIfInBounds_toArray, List.set_cons_zero, List.set_cons_succ, i64_w, i32_w]; rfl)
              refine pure_ (i := 4) (N := (some 40)) (v := ?_) (a' := ?_) (ar 19 5) rfl rfl (any_of HT_.out (by kernel_rfl)) (fun _ _ _ h => h) (Or.inl ⟨by rfl, ?_⟩) ?_ ?_; rotate_left; (· intro w1; go_simp; with_reducible rfl); rotate_left; (· simp only [Act.put, List.setIfInBounds_toArray, List.set_cons_zero, List.set_cons_succ, i64_w, i32_w]; rfl)
              refine pure_ (i := 5) (N := (some 41)) (v := ?_) (a' := ?_) (ar 19 6) rfl rfl (any_of HT_.out (by kernel_rfl)) (fun _ _ _ h => h) (Or.inl ⟨by rfl, ?_⟩) ?_ ?_; rotate_left; (· intro w1; go_simp; with_reducible rfl); rotate_left; (· simp only [Act.put, List.setIfInBounds_toArray, List.set_cons_zero, List.set_cons_succ, i64_w, i32_w]; rfl)
              refine pure_ (i := 6) (N := (some 42)) (v := ?_) (a' := ?_) (ar 19 7) rfl rfl (any_of HT_.out (by kernel_rfl)) (fun _ _ _ h => h) (Or.inl ⟨by rfl, ?_⟩) ?_ ?_; rotate_left; (· intro w1; go_simp; with_reducible rfl); rotate_left; (· simp only [Act.put, List.setIfInBounds_toArray, List.set_cons_zero, List.set_cons_succ, i64_w, i32_w]; rfl)
              refine take_ (i := 7) (N := (some 43)) (v := ?_) (a' := ?_) (ar 19 8) rfl rfl (take_ofW HT_.out HW_.out (by kernel_rfl)) (fun _ _ _ h => h) (Or.inl ⟨by rfl, ?_⟩) hHeld ?_ ?_; rotate_left; (· rintro w1 hs1; obtain ⟨adI, eI, xI_0, xI_1, xI_2, xI_3, xI_4, xI_5, xI_6, xI_7, xI_8, xI_9, xI_10, xI_11, xI_12, xI_13, xI_14, xI_15⟩ := at_T39 (Kd.C_below HR.out hs1) i PI.out.1 PI.out.2; obtain rfl : ad = adI := (by injection eI); obtain ⟨adK, eK, xK_0, xK_1, xK_2, xK_3, xK_4, xK_5, xK_6, xK_7, xK_8, xK_9, xK_10, xK_11, xK_12, xK_13, xK_14, xK_15⟩ := at_T39 (Kd.C_below HR.out hs1) k PK.out.1 PK.out.2; obtain rfl : ad = adK := (by injection eK); clear hs1; go_simp; with_reducible rfl); rotate_left; (· simp only [Act.put, List.setIfInBounds_toArray, List.set_cons_zero, List.set_cons_succ, i64_w, i32_w]; rfl)
              refine pure_ (i := 9) (N := (some 45)) (v := ?_) (a' := ?_) #[true, true, true, true, true, true, true, true, false, true, false, false, false, false, false, false, false, false, false] rfl rfl (any_of HT_.out (by kernel_rfl)) (fun _ _ _ h => h) (Or.inl ⟨by rfl, ?_⟩) ?_ ?_; rotate_left; (· intro w1; go_simp; with_reducible rfl); rotate_left; (· simp only [Act.put, List.setIfInBounds_toArray, List.set_cons_zero, List.set_cons_succ, i64_w, i32_w]; rfl)
              refine pure_ (i := 10) (N := (some 46)) (v := ?_) (a' := ?_) #[true, true, true, true, true, true, true, true, false, true, true, false, false, false, false, false, false, false, false] rfl rfl (any_of HT_.out (by kernel_rfl)) (fun _ _ _ h => h) (Or.inl ⟨by rfl, ?_⟩) ?_ ?_; rotate_left; (· intro w1; go_simp; with_reducible rfl); rotate_left; (· simp only [Act.put, List.setIfInBounds_toArray, List.set_cons_zero, List.set_cons_succ, i64_w, i32_w]; rfl)
              refine pure_ (i := 11) (N := (some 47)) (v := ?_) (a' := ?_) #[true, true, true, true, true, true, true, true, false, true, true, true, false, false, false, false, false, false, false] rfl rfl (any_of HT_.out (by kernel_rfl)) (fun _ _ _ h => h) (Or.inl ⟨by rfl, ?_⟩) ?_ ?_; rotate_left; (· intro w1; go_simp; with_reducible rfl); rotate_left; (· simp only [Act.put, List.setIfInBounds_toArray, List.set_cons_zero, List.set_cons_succ, i64_w, i32_w]; rfl)
              refine take_ (i := 12) (N := (some 48)) (v := ?_) (a' := ?_) #[true, true, true, true, true, true, true, true, false, true, true, true, true, false, false, false, false, false, false] rfl rfl (take_ofW HT_.out HW_.out (by kernel_rfl)) (fun _ _ _ h => h) (Or.inl ⟨by rfl, ?_⟩) hHeld ?_ ?_; rotate_left; (· rintro w1 hs1; obtain ⟨adI, eI, xI_0, xI_1, xI_2, xI_3, xI_4, xI_5, xI_6, xI_7, xI_8, xI_9, xI_10, xI_11, xI_12, xI_13, xI_14, xI_15⟩ := at_T39 (Kd.C_below HR.out hs1) i PI.out.1 PI.out.2; obtain rfl : ad = adI := (by injection eI); obtain ⟨adK, eK, xK_0, xK_1, xK_2, xK_3, xK_4, xK_5, xK_6, xK_7, xK_8, xK_9, xK_10, xK_11, xK_12, xK_13, xK_14, xK_15⟩ := at_T39 (Kd.C_below HR.out hs1) k PK.out.1 PK.out.2; obtain rfl : ad = adK := (by injection eK); clear hs1; go_simp; with_reducible rfl); rotate_left; (· simp only [Act.put, List.setIfInBounds_toArray, List.set_cons_zero, List.set_cons_succ, i64_w, i32_w]; rfl)
              refine pure_ (i := 13) (N := (some 49)) (v := ?_) (a' := ?_) #[true, true, true, true, true, true, true, true, false, true, true, true, true, true, false, false, false, false, false] rfl rfl (any_of HT_.out (by kernel_rfl)) (fun _ _ _ h => h) (Or.inl ⟨by rfl, ?_⟩) ?_ ?_; rotate_left; (· intro w1; go_simp; with_reducible rfl); rotate_left; (· simp only [Act.put, List.setIfInBounds_toArray, List.set_cons_zero, List.set_cons_succ, i64_w, i32_w]; rfl)
              refine pure_ (i := 14) (N := (some 50)) (v := ?_) (a' := ?_) #[true, true, true, true, true, true, true, true, false, true, true, true, true, true, true, false, false, false, false] rfl rfl (any_of HT_.out (by kernel_rfl)) (fun _ _ _ h => h) (Or.inl ⟨by rfl, ?_⟩) ?_ ?_; rotate_left; (· intro w1; go_simp; with_reducible rfl); rotate_left; (· simp only [Act.put, List.setIfInBounds_toArray, List.set_cons_zero, List.set_cons_succ, i64_w, i32_w]; rfl)
              refine pure_ (i := 15) (N := (some 51)) (v := ?_) (a' := ?_) #[true, true, true, true, true, true, true, true, false, true, true, true, true, true, true, true, false, false, false] rfl rfl (any_of HT_.out (by kernel_rfl)) (fun _ _ _ h => h) (Or.inl ⟨by rfl, ?_⟩) ?_ ?_; rotate_left; (· intro w1; go_simp; with_reducible rfl); rotate_left; (· simp only [Act.put, List.setIfInBounds_toArray, List.set_cons_zero, List.set_cons_succ, i64_w, i32_w]; rfl)
              refine take_ (i := 16) (N := (some 52)) (v := ?_) (a' := ?_) #[true, true, true, true, true, true, true, true, false, true, true, true, true, true, true, true, true, false, false] rfl rfl (take_ofW HT_.out HW_.out (by kernel_rfl)) (fun _ _ _ h => h) (Or.inl ⟨by rfl, ?_⟩) hHeld ?_ ?_; rotate_left; (· rintro w1 hs1; obtain ⟨adI, eI, xI_0, xI_1, xI_2, xI_3, xI_4, xI_5, xI_6, xI_7, xI_8, xI_9, xI_10, xI_11, xI_12, xI_13, xI_14, xI_15⟩ := at_T39 (Kd.C_below HR.out hs1) i PI.out.1 PI.out.2; obtain rfl : ad = adI := (by injection eI); obtain ⟨adK, eK, xK_0, xK_1, xK_2, xK_3, xK_4, xK_5, xK_6, xK_7, xK_8, xK_9, xK_10, xK_11, xK_12, xK_13, xK_14, xK_15⟩ := at_T39 (Kd.C_below HR.out hs1) k PK.out.1 PK.out.2; obtain rfl : ad = adK := (by injection eK); clear hs1; go_simp; with_reducible rfl); rotate_left; (· simp only [Act.put, List.setIfInBounds_toArray, List.set_cons_zero, List.set_cons_succ, i64_w, i32_w]; rfl)
              refine one_ (i := 8) (N := (some 44)) (ar 19 17) rfl rfl (one_of HT_.out (by kernel_rfl)) (by decide) (fun K hK => ?_); refine goes_ Try.func19 (by kernel_rfl) rfl #[.agg #[.int .i64 (rd_T39 l i).f0, .int .i64 (rd_T39 l i).f1, .bool (rd_T39 l i).f2, .string (rd_T39 l i).f3, .int .i64 (rd_T39 l i).f4.f0, .string (rd_T39 l i).f4.f1, .string (rd_T39 l i).f4.f2, .int .i64 (rd_T39 l i).f4.f3, .int .i64 (rd_T39 l i).f5, .int .i64 (rd_T39 l i).f6, .int .i64 (rd_T39 l i).f7.f0, .int .i64 (rd_T39 l i).f7.f1, .string (rd_T39 l i).f8.f0, .string (rd_T39 l i).f8.f1, .int .i64 (rd_T39 l i).f8.f2, .bool (rd_T39 l i).f9], .agg #[.int .i64 (rd_T39 l k).f0, .int .i64 (rd_T39 l k).f1, .bool (rd_T39 l k).f2, .string (rd_T39 l k).f3, .int .i64 (rd_T39 l k).f4.f0, .string (rd_T39 l k).f4.f1, .string (rd_T39 l k).f4.f2, .int .i64 (rd_T39 l k).f4.f3, .int .i64 (rd_T39 l k).f5, .int .i64 (rd_T39 l k).f6, .int .i64 (rd_T39 l k).f7.f0, .int .i64 (rd_T39 l k).f7.f1, .string (rd_T39 l k).f8.f0, .string (rd_T39 l k).f8.f1, .int .i64 (rd_T39 l k).f8.f2, .bool (rd_T39 l k).f9]] (by rfl) rfl rfl (by (try simp only [List.map_toArray, List.map_cons, List.map_nil]); first | done | rfl) ?_; with_reducible refine (HP.out _).mono ?_; rintro e w12 ⟨rfl, hb⟩; refine ⟨_, rfl, ?_⟩; replace HB := Lib.hid (below_step HB.out hb); clear hb; refine hK.out _ _ HB.out (fun hHeld => ?_); clear hK K; refine norm_ (a' := ?_) ?_ ?_; rotate_left; (· show Act.put _ (some 44) _ = _; simp only [Act.put, List.setIfInBounds_toArray, List.set_cons_zero, List.set_cons_succ, i64_w, i32_w]; rfl)
              refine one_ (i := 17) (N := (some 53)) (ar 19 18) rfl rfl (one_of HT_.out (by kernel_rfl)) (by decide) (fun K hK => ?_); refine goes_ Try.func20 (by kernel_rfl) rfl #[.agg #[.int .i64 (rd_T39 l i).f0, .int .i64 (rd_T39 l i).f1, .bool (rd_T39 l i).f2, .string (rd_T39 l i).f3, .int .i64 (rd_T39 l i).f4.f0, .string (rd_T39 l i).f4.f1, .string (rd_T39 l i).f4.f2, .int .i64 (rd_T39 l i).f4.f3, .int .i64 (rd_T39 l i).f5, .int .i64 (rd_T39 l i).f6, .int .i64 (rd_T39 l i).f7.f0, .int .i64 (rd_T39 l i).f7.f1, .string (rd_T39 l i).f8.f0, .string (rd_T39 l i).f8.f1, .int .i64 (rd_T39 l i).f8.f2, .bool (rd_T39 l i).f9], .agg #[.int .i64 (rd_T39 l k).f0, .int .i64 (rd_T39 l k).f1, .bool (rd_T39 l k).f2, .string (rd_T39 l k).f3, .int .i64 (rd_T39 l k).f4.f0, .string (rd_T39 l k).f4.f1, .string (rd_T39 l k).f4.f2, .int .i64 (rd_T39 l k).f4.f3, .int .i64 (rd_T39 l k).f5, .int .i64 (rd_T39 l k).f6, .int .i64 (rd_T39 l k).f7.f0, .int .i64 (rd_T39 l k).f7.f1, .string (rd_T39 l k).f8.f0, .string (rd_T39 l k).f8.f1, .int .i64 (rd_T39 l k).f8.f2, .bool (rd_T39 l k).f9]] (by rfl) rfl rfl (by (try simp only [List.map_toArray, List.map_cons, List.map_nil]); first | done | rfl) ?_; with_reducible refine (HQ.out _).mono ?_; rintro e w12 ⟨rfl, hb⟩; refine ⟨_, rfl, ?_⟩; replace HB := Lib.hid (below_step HB.out hb); clear hb; refine hK.out _ _ HB.out (fun hHeld => ?_); clear hK K; refine norm_ (a' := ?_) ?_ ?_; rotate_left; (· show Act.put _ (some 53) _ = _; simp only [Act.put, List.setIfInBounds_toArray, List.set_cons_zero, List.set_cons_succ, i64_w, i32_w]; rfl)
              refine pure_ (i := 18) (N := (some 54)) (v := ?_) (a' := ?_) (ar 19 19) rfl rfl (any_of HT_.out (by kernel_rfl)) (fun _ _ _ h => h) (Or.inl ⟨by rfl, ?_⟩) ?_ ?_; rotate_left; (· intro w1; go_simp; with_reducible rfl); rotate_left; (· simp only [Act.put, List.setIfInBounds_toArray, List.set_cons_zero, List.set_cons_succ, i64_w, i32_w]; rfl)
              refine done_ (done_of HT_.out (by kernel_rfl)) ?_
              try go_wp2
              go_meet
              case rel => exact ⟨by first | rfl | simp, HB⟩
          case rest =>
            obtain ⟨rfl, HB2⟩ := hcut
            clear HB
            have wi : wrap64 (k + 1) = k + 1 := by have h1 := PK.out; have h2 := HN.out.1; unfold wrap64; omega
            have wi2 : IntKind.i64.wrap (k + 1) = k + 1 := (i64_w _).trans wi
            go_wp2
            go_roundw
            case rel => exact ⟨k + 1, by first | rfl | go_num, ⟨by omega, by have := PK.out; omega⟩, HB2⟩
            case measure => have := PK.out; simp [intOf]; omega
        · have wi : wrap64 (i + 1) = i + 1 := by have h1 := PI.out; have h2 := HN.out.1; unfold wrap64; omega
          have wi2 : IntKind.i64.wrap (i + 1) = i + 1 := (i64_w _).trans wi
          by_cases hk1 : k < (l.length : Int)
          · have c2 : decide (k < (l.length : Int)) = true := decide_eq_true hk1
            have c3 : decide (k < 8) = false := decide_eq_false (fun h => hk ⟨hk1, h⟩)
            clear hk hk1
            go_wp2
            go_roundw
            case rel => exact ⟨i + 1, by first | rfl | go_num, ⟨by omega, by have := PI.out; omega⟩, HB⟩
            case measure => have := PI.out; simp [intOf]; omega
          · have c2 : decide (k < (l.length : Int)) = false := decide_eq_false hk1
            clear hk hk1
            go_wp2
            go_roundw
            case rel => exact ⟨i + 1, by first | rfl | go_num, ⟨by omega, by have := PI.out; omega⟩, HB⟩
            case measure => have := PI.out; simp [intOf]; omega
    · have c1 : decide (i < (l.length : Int)) = false := decide_eq_false hlt
      go_wp2_with (first
        | (go_at_call 21; refine (OWN.out _).mono ?_; rintro e w6 ⟨v6, rfl, hR6, hb6⟩; obtain ⟨A6, c6, rfl, hc6, hC6⟩ := Kd.R_reads hR6; have F6 := Lib.hid (And.intro hc6 (And.intro hC6 (below_step HB.out hb6))); clear hR6 hb6 hc6 hC6)
        | (go_at_call 16; refine (lcheck_any w6 A6 c6 [ownC] F6.out.2.1 F6.out.1 (by decide) own_wf).mono ?_; rw [own_ok]; rintro e w7 ⟨rfl, hb7⟩; have F7 := Lib.hid (below_step F6.out.2.2 hb7); clear hb7)
        | (fail))
      go_ret
      exact ⟨by first | rfl | simp, F7.out⟩
end Go.Proofs.Ytbakmkoppieelaa.PLinearChecks

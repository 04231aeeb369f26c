/- What is proved: the law LinearChecks returns true, of any calls that fit a slice's reach; the condition stands in its theorem. -/
import Derived.Test.YtbakmkoppieelaaLChk
import Derived.Test.YtbakmkoppieelaaPLinearChecksx7
namespace Go.Proofs.Ytbakmkoppieelaa.PLinearChecks
open Go.RowKit Go.Proofs.YtbakmkoppieelaaW.PrintWords Go.Proofs.YtbakmkoppieelaaW.PrintLast Go.Proofs.YtbakmkoppieelaaW.PrintMore
set_option linter.unusedVariables false
set_option linter.unusedSimpArgs false
/-! #### the law's own functions -/
def mk0 (s : ByteArray) : S39 := ⟨0, 0, false, s, ⟨0, ⟨#[]⟩, ⟨#[]⟩, 0⟩, 0, 0, ⟨0, 0⟩, ⟨⟨#[]⟩, ⟨#[]⟩, 0⟩, false⟩
def sM : ByteArray := ⟨#[109, 97, 114, 107]⟩
def sK : ByteArray := ⟨#[107, 114, 97, 109]⟩
def marks : List S39 := [mk0 sM, mk0 sK]
def inn (s : ByteArray) : List Value := [.int .i64 0, .int .i64 0, .bool false, .string s, .int .i64 0, .string ⟨#[]⟩, .string ⟨#[]⟩, .int .i64 0, .int .i64 0, .int .i64 0, .int .i64 0, .int .i64 0, .string ⟨#[]⟩, .string ⟨#[]⟩, .int .i64 0, .bool false]
theorem marks_rep (W : World) (base : Nat) : Reps (k39.M W base (fun _ => True)) k39.sz marks (inn sM ++ inn sK) :=
  Reps.front (show Kd.M k39 _ _ _ (mk0 sM) (inn sM) from k39_mkM _ _ _ (mk0 sM)) rfl (Reps.front (show Kd.M k39 _ _ _ (mk0 sK) (inn sK) from k39_mkM _ _ _ (mk0 sK)) rfl (Reps.none _ _) (by simp)) rfl
theorem lit_R (W : World) : Kd.R k39 39 (W.alloc (.cells (inn sM ++ inn sK).toArray 39)) W.heap.size (fun _ => True) (.slice (some ⟨W.heap.size, 0, none⟩) 2 2) marks := by
  refine ⟨fun k hk => trivial, inn sM ++ inn sK, ?_, ?_⟩
  · have h2 := World.ownsRow_lit (base := W.heap.size) (e := 39) (size := k39.sz) W (inn sM ++ inn sK).toArray 2 (Nat.le_refl _) (by decide) (by rfl)
    have h3 : (W.alloc (.cells (inn sM ++ inn sK).toArray 39)).ownsRow W.heap.size 39 k39.sz (.slice (some ⟨W.heap.size, 0, none⟩) 2 2) 2 (inn sM ++ inn sK) := by simpa using h2
    exact h3
  · refine (marks_rep W W.heap.size).imp_ (fun p c hp => k39.M_mono (fun k hk => ⟨trivial, fun he => ?_⟩) (Kd.M_below (k39.M_bound hp) (below_alloc (Below.refl _ _) _)))
    have h3 : k = W.heap.size := by simpa [Value.ownBlock] using he
    have := hk.2.2.1
    omega
theorem lit_C (W : World) : Kd.C k39 (W.alloc (.cells (inn sM ++ inn sK).toArray 39)) (some ⟨W.heap.size, 0, none⟩) 2 marks := (Kd.R_reads' (lit_R W)).2.2
set_option maxRecDepth 100000 in
set_option maxHeartbeats 8000000 in
theorem roomy (w : World) (A : Option Addr) (c : Nat) (l : List S39) (hr : Kd.C k39 w A l.length l) (hc : l.length ≤ c) (hl : (l.length + 2) * 168 ≤ 140737488355328) :
    Calls Try.prog 14 #[.slice A l.length c] w fun e w' => ∃ A' c', e = .returned (.slice A' l.length c') ∧ l.length + 2 ≤ c' ∧ Kd.R k39 39 w' w.heap.size (fun _ => True) (.slice A' (l.length + 2) c') (l ++ marks) ∧ Below w.heap.size w w' := by
  have R := Lib.hid (And.intro hr hl)
  obtain ⟨n, hn⟩ : ∃ n, RowKit.Hid (n = l.length) := ⟨_, Lib.hid rfl⟩
  have hrn : RowKit.Hid (Kd.C k39 w A n l) := Lib.hid (by rw [hn.out]; exact hr)
  rw [← hn.out] at hc ⊢
  clear hr hl
  go_enter Try.func14, Try.ntmps14
  go_upto_region 2 with (first
    | ((with_reducible refine gate_dst (N := 5) rfl ?_); refine Kd.R_append_rows k39 (Rr := k39.K w) (w0 := w) w.heap.size rfl (.const (.slice none 0 0)) (.tmp 4) 22 39 (.agg #[.int .i64 0, .int .i64 0, .bool false, .string ⟨#[]⟩, .int .i64 0, .string ⟨#[]⟩, .string ⟨#[]⟩, .int .i64 0, .int .i64 0, .int .i64 0, .int .i64 0, .int .i64 0, .string ⟨#[]⟩, .string ⟨#[]⟩, .int .i64 0, .bool false]) 168 rfl Try.underlying22 info39 rfl (by decide) (by decide) (.slice none 0 0) [] l A n c (fun _ => True) (fun _ => False) rfl rfl (Kd.R_nil _ _ _ _ _) hrn.out (fun x cs h => by rw [k39_open h]; exact k39_mkM _ _ _ x) (fun _ h => h.elim) (fun _ _ => trivial) (Below.refl _ _) (Nat.le_refl _) (by have h1 := hn.out; have h2 := R.out.2; simp; omega) ?_; intro v1 w1 hR1 hb1 hg1 hat1; rw [List.nil_append] at hR1; have F1 := Lib.hid (And.intro hR1 hb1); obtain ⟨A1, c1, rfl, hc1, -⟩ := Kd.R_reads hR1; rw [← hn.out]; clear hR1 hb1 hg1 hat1 hc1)
    | ((with_reducible refine gate_dst (N := 9) rfl ?_); refine Kd.R_append_rows k39 (Rr := k39.K (w1.alloc (.cells (inn sM ++ inn sK).toArray 39))) (w0 := w) w.heap.size rfl (.tmp 5) (.tmp 8) 22 39 (.agg #[.int .i64 0, .int .i64 0, .bool false, .string ⟨#[]⟩, .int .i64 0, .string ⟨#[]⟩, .string ⟨#[]⟩, .int .i64 0, .int .i64 0, .int .i64 0, .int .i64 0, .int .i64 0, .string ⟨#[]⟩, .string ⟨#[]⟩, .int .i64 0, .bool false]) 168 rfl Try.underlying22 info39 rfl (by decide) (by decide) (.slice A1 n c1) l marks (some ⟨w1.heap.size, 0, none⟩) 2 2 (fun _ => True) (fun _ => False) rfl rfl ?h1 (lit_C w1) (fun x cs h => by rw [k39_open h]; exact k39_mkM _ _ _ x) (fun _ h => h.elim) (fun _ _ => trivial) ?h2 ?h3 (by have h1 := hn.out; have h2 := R.out.2; simp; omega) ?_; (case h1 => have h := Kd.R_alloc F1.out.1 (.cells (inn sM ++ inn sK).toArray 39); rw [← hn.out] at h; exact h); (case h2 => exact F1.out.2.alloc F1.out.2.size _); (case h3 => have h := F1.out.2.size; simp; omega); intro v3 w3 hR3 hb3 hg3 hat3; have F3 := Lib.hid (And.intro hR3 hb3); obtain ⟨A3, c3, rfl, hc3, -⟩ := Kd.R_reads hR3; have K3 := Lib.hid hc3; clear hR3 hb3 hg3 hat3 hc3)
    | (fail))
  have e2 : (l ++ marks).length = n + 2 := by rw [List.length_append, hn.out]; rfl
  have hc3 : n + 2 ≤ c3 := by have h := K3.out; rw [e2] at h; exact h
  have F4 : RowKit.Hid (Kd.R k39 39 w3 w.heap.size (fun _ => True) (.slice A3 (n + 2) c3) (l ++ marks)) := Lib.hid (by have h := F3.out.1; rw [e2] at h; exact h)
  have q0 : (0 : Int) ≤ (n : Int) := by omega
  have q1 : (n : Int) ≤ (c3 : Int) := by omega
  clear e2
  go_wp2_with (fail)
  go_ret
  exact ⟨_, _, rfl, hc3, F4.out, F3.out.2⟩
def precB (c d : S39) : Bool := c.f6 != -1 && decide (c.f6 < d.f5)
theorem prec1 (c d : S39) (W : World) : Calls Try.prog 19 #[.agg #[.int .i64 c.f0, .int .i64 c.f1, .bool c.f2, .string c.f3, .int .i64 c.f4.f0, .string c.f4.f1, .string c.f4.f2, .int .i64 c.f4.f3, .int .i64 c.f5, .int .i64 c.f6, .int .i64 c.f7.f0, .int .i64 c.f7.f1, .string c.f8.f0, .string c.f8.f1, .int .i64 c.f8.f2, .bool c.f9], .agg #[.int .i64 d.f0, .int .i64 d.f1, .bool d.f2, .string d.f3, .int .i64 d.f4.f0, .string d.f4.f1, .string d.f4.f2, .int .i64 d.f4.f3, .int .i64 d.f5, .int .i64 d.f6, .int .i64 d.f7.f0, .int .i64 d.f7.f1, .string d.f8.f0, .string d.f8.f1, .int .i64 d.f8.f2, .bool d.f9]] W fun e w' => e = .returned (.bool (precB c d)) ∧ Below W.heap.size W w' := by
  refine linear_Precedes.calls c.f0 c.f1 c.f2 c.f3 c.f4.f0 c.f4.f1 c.f4.f2 c.f4.f3 c.f5 c.f6 c.f7.f0 c.f7.f1 c.f8.f0 c.f8.f1 c.f8.f2 c.f9 d.f0 d.f1 d.f2 d.f3 d.f4.f0 d.f4.f1 d.f4.f2 d.f4.f3 d.f5 d.f6 d.f7.f0 d.f7.f1 d.f8.f0 d.f8.f1 d.f8.f2 d.f9 (precB c d) W ?_
  unfold linear_Precedes.f linear_answered.f precB
  cases (c.f6 != -1) <;> rfl
theorem prec2 (c d : S39) (W : World) : Calls Try.prog 20 #[.agg #[.int .i64 c.f0, .int .i64 c.f1, .bool c.f2, .string c.f3, .int .i64 c.f4.f0, .string c.f4.f1, .string c.f4.f2, .int .i64 c.f4.f3, .int .i64 c.f5, .int .i64 c.f6, .int .i64 c.f7.f0, .int .i64 c.f7.f1, .string c.f8.f0, .string c.f8.f1, .int .i64 c.f8.f2, .bool c.f9], .agg #[.int .i64 d.f0, .int .i64 d.f1, .bool d.f2, .string d.f3, .int .i64 d.f4.f0, .string d.f4.f1, .string d.f4.f2, .int .i64 d.f4.f3, .int .i64 d.f5, .int .i64 d.f6, .int .i64 d.f7.f0, .int .i64 d.f7.f1, .string d.f8.f0, .string d.f8.f1, .int .i64 d.f8.f2, .bool d.f9]] W fun e w' => e = .returned (.bool (precB c d)) ∧ Below W.heap.size W w' := by
  refine hawserref26_Precedes.calls c.f0 c.f1 c.f2 c.f3 c.f4.f0 c.f4.f1 c.f4.f2 c.f4.f3 c.f5 c.f6 c.f7.f0 c.f7.f1 c.f8.f0 c.f8.f1 c.f8.f2 c.f9 d.f0 d.f1 d.f2 d.f3 d.f4.f0 d.f4.f1 d.f4.f2 d.f4.f3 d.f5 d.f6 d.f7.f0 d.f7.f1 d.f8.f0 d.f8.f1 d.f8.f2 d.f9 (precB c d) W ?_
  unfold hawserref26_Precedes.f hawserref26_answered.f precB
  cases (c.f6 != -1) <;> rfl
def ownC : S39 := ⟨1, 1, false, ⟨#[97]⟩, ⟨1, ⟨#[97]⟩, ⟨#[120]⟩, 0⟩, 0, 1, ⟨1, 1⟩, ⟨⟨#[]⟩, ⟨#[]⟩, 0⟩, false⟩
theorem own_ok : refF [ownC] = 0 := by
  have hm : mayB ownC = true := by
    unfold mayB mayB16 updB opB usrB rowZ ownC
    simp only [ByteArray.toList_eq]
    decide
  refine refF_ok (fun i i0 i1 => ?_)
  have hi : i = 0 := by simp at i1; omega
  subst hi
  have e : rd_T39 [ownC] 0 = ownC := rfl
  refine ⟨by unfold bad1; rw [e, hm]; rfl, fun k k0 k1 => ?_⟩
  have hk : k = 0 := by simp at k1; omega
  subst hk
  exact ⟨by unfold bad2; rfl, by unfold bad3; rfl⟩
theorem own_wf : ∀ x ∈ [ownC], wfC x := by
  intro x hx
  rw [List.mem_singleton] at hx
  subst hx
  exact ⟨rfl, rfl⟩
end Go.Proofs.Ytbakmkoppieelaa.PLinearChecks

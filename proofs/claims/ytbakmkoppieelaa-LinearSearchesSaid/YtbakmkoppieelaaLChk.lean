/- What is proved: linear.Check of any calls answers as the reference's; the condition stands in its theorem. -/
import Derived.Test.YtbakmkoppieelaaRChk
import Derived.Test.YtbakmkoppieelaaLSlP
import Derived.Maps.OwnOps
import Derived.Maps.RangeWalk
import Derived.Maps.OwnSet
namespace Go.Proofs.Ytbakmkoppieelaa.PLinearChecks
open Go.RowKit Go.Proofs.YtbakmkoppieelaaW.PrintWords Go.Proofs.YtbakmkoppieelaaW.PrintLast Go.Proofs.YtbakmkoppieelaaW.PrintMore
open Go.Maps
set_option linter.unusedVariables false
set_option linter.unusedSimpArgs false
theorem callMay_ax (a0_0 : Int) (a0_1 : Int) (a0_2 : Bool) (a0_3 : ByteArray) (a0_4 : Int) (a0_5 : ByteArray) (a0_6 : ByteArray) (a0_7 : Int) (a0_8 : Int) (a0_9 : Int) (a0_10 : Int) (a0_11 : Int) (a0_12 : ByteArray) (a0_13 : ByteArray) (a0_14 : Int) (a0_15 : Bool) (b : Bool) (hb : mayB16 a0_0 a0_1 a0_2 a0_3 a0_4 a0_5 a0_6 a0_7 a0_8 a0_9 a0_10 a0_11 a0_12 a0_13 a0_14 a0_15 = b) (w : World) : Calls Try.prog 41 #[.agg #[.int .i64 a0_0, .int .i64 a0_1, .bool a0_2, .string a0_3, .int .i64 a0_4, .string a0_5, .string a0_6, .int .i64 a0_7, .int .i64 a0_8, .int .i64 a0_9, .int .i64 a0_10, .int .i64 a0_11, .string a0_12, .string a0_13, .int .i64 a0_14, .bool a0_15]] w fun e w' => e = .returned (.bool b) ∧ Below w.heap.size w w' := hb ▸ callMay_any a0_0 a0_1 a0_2 a0_3 a0_4 a0_5 a0_6 a0_7 a0_8 a0_9 a0_10 a0_11 a0_12 a0_13 a0_14 a0_15 w
/-! #### what the program's Check goes by -/
/-- How often x is a moment of the first k calls. -/
def momC (c : S39) (x : Int) : Nat := (if c.f5 = x then 1 else 0) + (if ansB c = true ∧ c.f6 = x then 1 else 0)
def cntN (l : List S39) (x : Int) : Nat → Nat
  | 0 => 0
  | k + 1 => cntN l x k + momC (rd_T39 l (k : Int)) x
/-- j is the last call ahead of i of its client. -/
def lastOf (l : List S39) (i j : Int) : Prop := 0 ≤ j ∧ j < i ∧ (rd_T39 l j).f0 = (rd_T39 l i).f0 ∧ ∀ m, j < m → m < i → (rd_T39 l m).f0 ≠ (rd_T39 l i).f0
def okP (l : List S39) (i0 : Int) : Prop := ∀ i, 0 ≤ i → i < i0 → bad1 l i = false ∧ ∀ j, lastOf l i j → bad3 l i j = false
theorem okP_succ {l : List S39} {i : Int} (h : okP l i) (h1 : bad1 l i = false) (h2 : ∀ j, lastOf l i j → bad3 l i j = false) : okP l (i + 1) := by
  intro j j0 j1
  by_cases e : j = i
  · subst e; exact ⟨h1, h2⟩
  · exact h j j0 (by omega)
theorem cntN_mono (l : List S39) (x : Int) {a b : Nat} (h : a ≤ b) : cntN l x a ≤ cntN l x b := by
  induction b with
  | zero => have : a = 0 := by omega
            subst this; exact Nat.le_refl _
  | succ b ih =>
    by_cases e : a = b + 1
    · subst e; exact Nat.le_refl _
    · have := ih (by omega); show _ ≤ cntN l x b + _; omega
theorem cntN_le (l : List S39) (x : Int) (k : Nat) : cntN l x k ≤ 2 * k := by
  induction k with
  | zero => exact Nat.le_refl _
  | succ k ih =>
    have : momC (rd_T39 l (k : Int)) x ≤ 2 := by unfold momC; split <;> split <;> omega
    show cntN l x k + _ ≤ _
    omega
/-- x is a moment of call j. -/
def isMom (l : List S39) (x : Int) (j : Nat) : Prop := (rd_T39 l (j : Int)).f5 = x ∨ (ansB (rd_T39 l (j : Int)) = true ∧ (rd_T39 l (j : Int)).f6 = x)
theorem momC_pos {l : List S39} {x : Int} {j : Nat} (h : isMom l x j) : 1 ≤ momC (rd_T39 l (j : Int)) x := by
  unfold momC
  rcases h with h | h
  · rw [if_pos h]; omega
  · rw [if_pos h]; omega
theorem cntN_two {l : List S39} {x : Int} {i k : Nat} (hik : i < k) (hi : isMom l x i) (hk : isMom l x k) {n : Nat} (hn : k < n) : 2 ≤ cntN l x n := by
  have h1 := cntN_mono l x (show k + 1 ≤ n by omega)
  have h2 := cntN_mono l x (show i + 1 ≤ k by omega)
  have h3 : cntN l x (k + 1) = cntN l x k + momC (rd_T39 l (k : Int)) x := rfl
  have h4 : cntN l x (i + 1) = cntN l x i + momC (rd_T39 l (i : Int)) x := rfl
  have := momC_pos hi
  have := momC_pos hk
  omega
theorem cntN_of {l : List S39} {x : Int} (k : Nat) (h : 1 ≤ cntN l x k) : ∃ j, j < k ∧ isMom l x j := by
  induction k with
  | zero => exact absurd h (by show ¬ 1 ≤ 0; omega)
  | succ k ih =>
    have e : cntN l x (k + 1) = cntN l x k + momC (rd_T39 l (k : Int)) x := rfl
    rw [e] at h
    by_cases h0 : 1 ≤ cntN l x k
    · obtain ⟨j, hj, hm⟩ := ih h0; exact ⟨j, by omega, hm⟩
    · refine ⟨k, by omega, ?_⟩
      have h1 : 1 ≤ momC (rd_T39 l (k : Int)) x := by omega
      unfold momC at h1
      unfold isMom
      by_cases a : (rd_T39 l (k : Int)).f5 = x
      · exact .inl a
      · rw [if_neg a] at h1
        by_cases b : ansB (rd_T39 l (k : Int)) = true ∧ (rd_T39 l (k : Int)).f6 = x
        · exact .inr b
        · rw [if_neg b] at h1; omega
theorem may_end {c : S39} (h : mayB c = true) (ha : ansB c = true) : c.f5 < c.f6 := by
  unfold mayB mayB16 at h
  simp only [Bool.and_eq_true, Bool.or_eq_true, Bool.not_eq_true', decide_eq_false_iff_not, beq_iff_eq] at h
  have h2 := h.2.2.2.1
  unfold ansB at ha
  rcases h2 with h2 | h2
  · rw [h2] at ha; exact absurd ha (by decide)
  · omega
theorem may_client {c : S39} (h : mayB c = true) : 1 ≤ c.f0 ∧ c.f0 ≤ 16 := by
  unfold mayB mayB16 at h
  simp only [Bool.and_eq_true] at h
  have h2 := h.1
  unfold wiB at h2
  by_cases h3 : c.f0 ≥ 1
  · rw [if_pos h3] at h2; exact ⟨h3, of_decide_eq_true h2⟩
  · rw [if_neg h3] at h2; exact absurd h2 (by decide)
theorem bad1_may {l : List S39} {i : Int} (h : bad1 l i = false) : mayB (rd_T39 l i) = true := by
  unfold bad1 at h
  simp only [Bool.or_eq_false_iff, Bool.not_eq_false'] at h
  exact h.1
theorem bad1_rise {l : List S39} {i : Int} (h : bad1 l i = false) (hi : 0 < i) : (rd_T39 l (i - 1)).f5 < (rd_T39 l i).f5 := by
  unfold bad1 at h
  simp only [Bool.or_eq_false_iff, Bool.and_eq_false_iff, decide_eq_false_iff_not] at h
  rcases h.2 with h2 | h2
  · omega
  · omega
theorem begins_rise {l : List S39} {n : Int} (h : ∀ i, 0 ≤ i → i < n → bad1 l i = false) : ∀ (d : Nat) (i : Int), 0 ≤ i → i + d + 1 < n → (rd_T39 l i).f5 < (rd_T39 l (i + d + 1)).f5 := by
  intro d
  induction d with
  | zero =>
    intro i h0 h1
    have := bad1_rise (h (i + 1) (by omega) (by omega)) (by omega)
    rw [show i + 1 - 1 = i by omega] at this
    rw [show i + ((0 : Nat) : Int) + 1 = i + 1 by omega]
    exact this
  | succ d ih =>
    intro i h0 h1
    have a := ih i h0 (by omega)
    have b := bad1_rise (h (i + (d + 1 : Nat) + 1) (by omega) h1) (by omega)
    rw [show i + ((d + 1 : Nat) : Int) + 1 - 1 = i + (d : Int) + 1 by omega] at b
    omega
theorem begins_lt {l : List S39} {n : Int} (h : ∀ i, 0 ≤ i → i < n → bad1 l i = false) {i k : Int} (h0 : 0 ≤ i) (hik : i < k) (hk : k < n) : (rd_T39 l i).f5 < (rd_T39 l k).f5 := by
  have := begins_rise h (k - i - 1).toNat i h0 (by omega)
  rw [show i + ((k - i - 1).toNat : Int) + 1 = k by omega] at this
  exact this
theorem bad2_false {l : List S39} {i k : Int} : bad2 l i k = false ↔ (k ≠ i → ansB (rd_T39 l i) = true → (rd_T39 l i).f6 ≠ (rd_T39 l k).f5 ∧ (rd_T39 l i).f6 ≠ (rd_T39 l k).f6) := by
  unfold bad2
  by_cases e : k = i
  · subst e; simp
  · cases a : ansB (rd_T39 l i)
    · simp
    · simp [e]
theorem bad3_false {l : List S39} {i k : Int} : bad3 l i k = false ↔ (k < i → (rd_T39 l k).f0 = (rd_T39 l i).f0 → ansB (rd_T39 l k) = true ∧ (rd_T39 l k).f6 < (rd_T39 l i).f5 ∧ (rd_T39 l k).f1 < (rd_T39 l i).f1) := by
  unfold bad3
  by_cases e : k < i
  · by_cases f : (rd_T39 l k).f0 = (rd_T39 l i).f0
    · cases a : ansB (rd_T39 l k)
      · simp [e, f]
      · simp [e, f]
    · simp [f]
  · simp [e]
/-- All moments are apart. -/
theorem ok_once {l : List S39} (h : okTo l l.length) (x : Int) : ∀ k, k ≤ l.length → cntN l x k ≤ 1 := by
  intro k
  induction k with
  | zero => intro _; exact Nat.zero_le _
  | succ k ih =>
    intro hk
    have e : cntN l x (k + 1) = cntN l x k + momC (rd_T39 l (k : Int)) x := rfl
    have hb : ∀ i, 0 ≤ i → i < (l.length : Int) → bad1 l i = false := fun i a b => (h i a b).1
    have hkk := h (k : Int) (by omega) (by omega)
    have hm1 : momC (rd_T39 l (k : Int)) x ≤ 1 := by
      unfold momC
      by_cases a : (rd_T39 l (k : Int)).f5 = x
      · by_cases b : ansB (rd_T39 l (k : Int)) = true ∧ (rd_T39 l (k : Int)).f6 = x
        · have := may_end (bad1_may hkk.1) b.1; omega
        · rw [if_pos a, if_neg b]; omega
      · rw [if_neg a]; split <;> omega
    rw [e]
    by_cases h0 : 1 ≤ cntN l x k
    · obtain ⟨j, hj, hmj⟩ := cntN_of k h0
      have hm0 : ¬ isMom l x k := by
        intro hmk
        have hjk := begins_lt hb (show (0 : Int) ≤ j by omega) (show (j : Int) < k by omega) (by omega)
        have hjj := h (j : Int) (by omega) (by omega)
        have q1 := bad2_false.1 (hkk.2 (j : Int) (by omega) (by omega)).1 (by omega)
        have q2 := bad2_false.1 (hjj.2 (k : Int) (by omega) (by omega)).1 (by omega)
        rcases hmj with a | ⟨a, a'⟩
        · rcases hmk with b | ⟨b, b'⟩
          · omega
          · exact (q1 b).1 (by omega)
        · rcases hmk with b | ⟨b, b'⟩
          · exact (q2 a).1 (by omega)
          · exact (q2 a).2 (by omega)
      have : momC (rd_T39 l (k : Int)) x = 0 := by
        unfold momC
        unfold isMom at hm0
        rw [if_neg (fun z => hm0 (.inl z)), if_neg (fun z => hm0 (.inr z))]
      have := ih (by omega)
      omega
    · omega
/-- Behind a client's call that is not right, none of it is right; so the last ones tell all. -/
theorem okP_all {l : List S39} {n : Int} (h : okP l n) : ∀ (d : Nat) (i k : Int), 0 ≤ k → k < i → i < n → i - k ≤ d → (rd_T39 l k).f0 = (rd_T39 l i).f0 → ansB (rd_T39 l k) = true ∧ (rd_T39 l k).f6 < (rd_T39 l i).f5 ∧ (rd_T39 l k).f1 < (rd_T39 l i).f1 := by
  intro d
  induction d with
  | zero => intro i k h0 h1 h2 h3; omega
  | succ d ih =>
    intro i k h0 h1 h2 h3 hc
    by_cases hl : ∀ m, k < m → m < i → (rd_T39 l m).f0 ≠ (rd_T39 l i).f0
    · exact bad3_false.1 ((h i (by omega) h2).2 k ⟨h0, h1, hc, hl⟩) h1 hc
    · obtain ⟨m, hm⟩ := Classical.not_forall.1 hl
      obtain ⟨m1, hm⟩ := Classical.not_imp.1 hm
      obtain ⟨m2, hm⟩ := Classical.not_imp.1 hm
      have hm' : (rd_T39 l m).f0 = (rd_T39 l i).f0 := Classical.not_not.1 hm
      have a := ih i m (by omega) m2 h2 (by omega) hm'
      have b := ih m k h0 m1 (by omega) (by omega) (hc.trans hm'.symm)
      have c := may_end (bad1_may (h m (by omega) (by omega)).1) a.1
      exact ⟨b.1, by omega, by omega⟩
theorem ok_of_prog {l : List S39} (h : okP l l.length) (hc : ∀ x, cntN l x l.length ≤ 1) : okTo l l.length := by
  have hb : ∀ i, 0 ≤ i → i < (l.length : Int) → bad1 l i = false := fun i a b => (h i a b).1
  intro i i0 i1
  refine ⟨(h i i0 i1).1, fun k k0 k1 => ⟨?_, ?_⟩⟩
  · refine bad2_false.2 (fun hne ha => ?_)
    have two : ∀ x, isMom l x i.toNat → isMom l x k.toNat → False := by
      intro x a b
      have := hc x
      rcases Int.lt_or_gt_of_ne hne with g | g
      · have := cntN_two (show k.toNat < i.toNat by omega) b a (show i.toNat < l.length by omega); omega
      · have := cntN_two (show i.toNat < k.toNat by omega) a b (show k.toNat < l.length by omega); omega
    have ei : ((i.toNat : Nat) : Int) = i := by omega
    have ek : ((k.toNat : Nat) : Int) = k := by omega
    refine ⟨fun e => two (rd_T39 l i).f6 (.inr (by rw [ei]; exact ⟨ha, rfl⟩)) (.inl (by rw [ek]; exact e.symm)), fun e => ?_⟩
    refine two (rd_T39 l i).f6 (.inr (by rw [ei]; exact ⟨ha, rfl⟩)) (.inr ?_)
    rw [ek]
    refine ⟨?_, e.symm⟩
    unfold ansB at ha ⊢
    rw [← e]; exact ha
  · exact bad3_false.2 (fun hlt hcl => okP_all h (i - k).toNat i k k0 hlt i1 (by omega) hcl)
theorem refF_dup {l : List S39} (x : Int) (h : 1 < cntN l x l.length) : refF l = 260 := if_neg (fun hh => by have := ok_once hh x l.length (Nat.le_refl _); omega)
theorem refF_done {l : List S39} (h : okP l l.length) (hc : ∀ x, cntN l x l.length ≤ 1) : refF l = 0 := if_pos (ok_of_prog h hc)
theorem refF_bad1 {l : List S39} {i : Int} (h0 : 0 ≤ i) (h1 : i < l.length) (h : bad1 l i = true) : refF l = 260 := refF_bad i h0 h1 (fun hh => by rw [h] at hh; exact absurd hh.1 (by decide))
theorem refF_bad3 {l : List S39} {i j : Int} (h0 : 0 ≤ i) (h1 : i < l.length) (hj : 0 ≤ j) (hji : j < i) (h : bad3 l i j = true) : refF l = 260 := refF_bad i h0 h1 (fun hh => by have h3 := (hh.2 j hj (by omega)).2; rw [h] at h3; exact absurd h3 (by decide))
open Go.Maps in
theorem law3 : Keyed Try.prog 3 := int_keyed Try.underlying3
theorem zero3 (w : World) : (zeroValue 3).run Try.prog w = .ok (.int .i64 0) w := by kernel_rfl
def wfC (c : S39) : Prop := (Lit.int .i64 c.f5).wf = true ∧ (Lit.int .i64 c.f6).wf = true
theorem rd_mem {l : List S39} {i : Int} (h0 : 0 ≤ i) (h1 : i < l.length) : rd_T39 l i ∈ l := by
  unfold rd_T39
  rw [List.getD_eq_getElem?_getD, List.getElem?_eq_getElem (show i.toNat < l.length by omega)]
  exact List.getElem_mem _
def MapIs (l : List S39) (D : DataW Unit) (m : Nat) : Prop := ∀ x, (Lit.int .i64 x).wf = true → D.atKey (.int .i64 x) (.lit (.int .i64 0)) = .lit (.int .i64 ((cntN l x m : Nat) : Int))
def LastOk (l : List S39) (A : Option Addr) (i : Int) (arr : Array Value) : Prop := arr.size = 17 ∧ ∀ cl : Int, 1 ≤ cl → cl ≤ 16 → (arr[cl.toNat]? = some (.pointer none) ∧ ∀ j, 0 ≤ j → j < i → (rd_T39 l j).f0 ≠ cl) ∨ (∃ j ad, A = some ad ∧ 0 ≤ j ∧ j < i ∧ (rd_T39 l j).f0 = cl ∧ (∀ m, j < m → m < i → (rd_T39 l m).f0 ≠ cl) ∧ arr[cl.toNat]? = some (.pointer (some (ad.add (j.toNat * 16)))))
def Inv (w : World) (l : List S39) (bL bM : Nat) (arr : Array Value) (k m : Nat) (W : World) : Prop := W.heap[bL]? = some (.cells arr 99 (0, 0)) ∧ (∃ D : DataW Unit, W.ownsMap Try.prog 3 (plainElem Try.prog 3) bM k D ∧ MapIs l D m) ∧ Below w.heap.size w W
theorem grown_b {A B : World} (h : Below A.heap.size A B) : A.grownBy B none := ⟨h.os, h.tape, h.output, h.size, fun k hk _ => h.block k hk⟩
theorem Inv.below {w : World} {l : List S39} {bL bM k m : Nat} {arr : Array Value} {W W' : World} (h : Inv w l bL bM arr k m W) (hb : Below W.heap.size W W') : Inv w l bL bM arr k m W' := by
  obtain ⟨h1, ⟨D, h2, h3⟩, h4⟩ := h
  exact ⟨blk_below h1 hb, ⟨D, h2.kept (grown_b hb) (by simp), h3⟩, h4.trans (hb.mono h4.size)⟩
theorem last_start (l : List S39) (A : Option Addr) : LastOk l A 0 (Array.replicate 17 (.pointer none)) := by
  refine ⟨by simp, fun cl h0 h1 => .inl ⟨?_, fun j a b => by omega⟩⟩
  rw [Array.getElem?_replicate, if_pos (by omega)]
theorem last_step {l : List S39} {ad : Addr} {i : Int} {arr : Array Value} (h : LastOk l (some ad) i arr) (hi : 0 ≤ i) (h1 : 1 ≤ (rd_T39 l i).f0) (h2 : (rd_T39 l i).f0 ≤ 16) : LastOk l (some ad) (i + 1) (arr.setIfInBounds (rd_T39 l i).f0.toNat (.pointer (some (ad.add (i.toNat * 16))))) := by
  refine ⟨by simp [h.1], fun cl a b => ?_⟩
  by_cases e : (rd_T39 l i).f0 = cl
  · refine .inr ⟨i, ad, rfl, hi, by omega, e, fun m m0 m1 => by omega, ?_⟩
    rw [e, Array.getElem?_setIfInBounds_self, if_pos (by rw [h.1]; omega)]
  · have ne : (rd_T39 l i).f0.toNat ≠ cl.toNat := by omega
    rw [Array.getElem?_setIfInBounds_ne ne]
    rcases h.2 cl a b with ⟨p, q⟩ | ⟨j, ad', p0, p1, p2, p3, p4, p5⟩
    · refine .inl ⟨p, fun j j0 j1 => ?_⟩
      by_cases e2 : j = i
      · subst e2; exact e
      · exact q j j0 (by omega)
    · refine .inr ⟨j, ad', p0, p1, by omega, p3, fun m m0 m1 => ?_, p5⟩
      by_cases e2 : m = i
      · subst e2; exact e
      · exact p4 m m0 (by omega)
theorem lastOf_none {l : List S39} {i j : Int} (h : ∀ j, 0 ≤ j → j < i → (rd_T39 l j).f0 ≠ (rd_T39 l i).f0) : ¬ lastOf l i j := fun hh => h j hh.1 hh.2.1 hh.2.2.1
theorem lastOf_one {l : List S39} {i j k : Int} (h0 : 0 ≤ j) (h1 : j < i) (h2 : (rd_T39 l j).f0 = (rd_T39 l i).f0) (h3 : ∀ m, j < m → m < i → (rd_T39 l m).f0 ≠ (rd_T39 l i).f0) (hk : lastOf l i k) : k = j := by
  rcases Int.lt_trichotomy k j with a | a | a
  · exact absurd h2 (hk.2.2.2 j a h1)
  · exact a
  · exact absurd hk.2.2.1 (h3 k a hk.2.1)
open Go.Maps in
theorem map_step {D : DataW Unit} {f : Int → Nat} {x : Int} {c : Int} (hD : IsMap D) (hx : (Lit.int .i64 x).wf = true) (h : ∀ y, (Lit.int .i64 y).wf = true → D.atKey (.int .i64 y) (.lit (.int .i64 0)) = .lit (.int .i64 ((f y : Nat) : Int))) (hf : f x ≤ 4000000000000) (hat : D.atKey (.int .i64 x) (.lit (.int .i64 0)) = .lit (.int .i64 c)) :
    ∀ y, (Lit.int .i64 y).wf = true → (D.put (.int .i64 x) (.lit (.int .i64 (wrap64 (c + 1))))).atKey (.int .i64 y) (.lit (.int .i64 0)) = .lit (.int .i64 ((f y + (if x = y then 1 else 0) : Nat) : Int)) := by
  intro y hy
  have hc : c = ((f x : Nat) : Int) := by
    have h2 := h x hx
    rw [hat] at h2
    injection h2 with h2
    injection h2
  by_cases e : x = y
  · subst e
    rw [atKey_put_same hD (by trivial), if_pos rfl, hc]
    congr 2
    unfold wrap64
    omega
  · rw [atKey_put_other (fun h => e (by injection h with _ h; exact h.symm)), if_neg e]
    exact h y hy
def cutP (l : List S39) (i : Int) (b : Bool) : Prop := (b = false → ∀ j, lastOf l i j → bad3 l i j = false) ∧ (b = true → refF l = 260)
theorem inv_start (w : World) (l : List S39) : Inv w l w.heap.size (w.heap.size + 1) (Array.replicate 17 (.pointer none)) 0 0 ((w.alloc (.cells #[.pointer none, .pointer none, .pointer none, .pointer none, .pointer none, .pointer none, .pointer none, .pointer none, .pointer none, .pointer none, .pointer none, .pointer none, .pointer none, .pointer none, .pointer none, .pointer none, .pointer none] 99)).alloc (.map #[] 0)) := by
  refine ⟨blk_alloc (blk_new w _) _, ⟨.map [], ?_, fun x hx => ?_⟩, ((Below.refl _ _).alloc (Nat.le_refl _) _).alloc (by simp) _⟩
  · have h := World.ownsMap_made (H := Unit) (w.alloc (.cells #[.pointer none, .pointer none, .pointer none, .pointer none, .pointer none, .pointer none, .pointer none, .pointer none, .pointer none, .pointer none, .pointer none, .pointer none, .pointer none, .pointer none, .pointer none, .pointer none, .pointer none] 99)) Try.prog 3 (plainElem Try.prog 3)
    rw [World.size_alloc] at h
    exact h
  · exact Maps.atKey_of_not_has rfl _
/-- Behind 'moments[x]++'. -/
def MapAt (D : DataW Unit) (f : Int → Nat) : Prop := ∀ y, (Lit.int .i64 y).wf = true → D.atKey (.int .i64 y) (.lit (.int .i64 0)) = .lit (.int .i64 ((f y : Nat) : Int))
theorem inv_up {w W w5 : World} {bL bM k : Nat} {arr : Array Value} {D : DataW Unit} {f : Int → Nat} {x c : Int} (h1 : W.heap[bL]? = some (.cells arr 99 (0, 0))) (hb : Below w.heap.size w W) (hne : bL ≠ bM) (hbl : w.heap.size ≤ bL) (hbM : bM = w.heap.size + 1)
    (ho : w5.ownsMap Try.prog 3 (plainElem Try.prog 3) bM (k + 1) (D.put (.int .i64 x) (.lit (.int .i64 (wrap64 (c + 1)))))) (hg : W.grownBy w5 (some bM)) (hx : (Lit.int .i64 x).wf = true) (hf : MapAt D f) (hfx : f x ≤ 4000000000000) (hat : D.atKey (.int .i64 x) (.lit (.int .i64 0)) = .lit (.int .i64 c)) (hD : Maps.IsMap D) :
    w5.heap[bL]? = some (.cells arr 99 (0, 0)) ∧ (∃ D' : DataW Unit, w5.ownsMap Try.prog 3 (plainElem Try.prog 3) bM (k + 1) D' ∧ MapAt D' (fun y => f y + (if x = y then 1 else 0))) ∧ Below w.heap.size w w5 :=
  ⟨blk_grown h1 hg (by intro e; injection e with e; exact hne e), ⟨_, ho, map_step hD hx hf hfx hat⟩, hb.grown hg hb.size (fun j hj => by cases hj; omega)⟩
theorem mapis_no {l : List S39} {D : DataW Unit} {i : Int} (hi : 0 ≤ i) (ha : ((rd_T39 l i).f6 != -1) = false) (h : MapAt D (fun y => cntN l y i.toNat + (if (rd_T39 l i).f5 = y then 1 else 0))) : MapIs l D (i.toNat + 1) := by
  intro y hy
  rw [h y hy]
  congr 2
  show ((_ : Nat) : Int) = ((cntN l y i.toNat + momC (rd_T39 l ((i.toNat : Nat) : Int)) y : Nat) : Int)
  rw [show ((i.toNat : Nat) : Int) = i by omega]
  unfold momC ansB
  rw [ha]
  simp
theorem mapis_yes {l : List S39} {D : DataW Unit} {i : Int} (hi : 0 ≤ i) (ha : ((rd_T39 l i).f6 != -1) = true) (h : MapAt D (fun y => cntN l y i.toNat + (if (rd_T39 l i).f5 = y then 1 else 0) + (if (rd_T39 l i).f6 = y then 1 else 0))) : MapIs l D (i.toNat + 1) := by
  intro y hy
  rw [h y hy]
  congr 2
  show ((_ : Nat) : Int) = ((cntN l y i.toNat + momC (rd_T39 l ((i.toNat : Nat) : Int)) y : Nat) : Int)
  rw [show ((i.toNat : Nat) : Int) = i by omega]
  unfold momC ansB
  rw [ha]
  simp [Nat.add_assoc]
theorem last_case {l : List S39} {ad : Addr} {i : Int} {arr : Array Value} (h : LastOk l (some ad) i arr) (h1 : 1 ≤ (rd_T39 l i).f0 ∧ (rd_T39 l i).f0 ≤ 16) : ∃ pv, arr[(rd_T39 l i).f0.toNat]? = some pv ∧
    ((pv = .pointer none ∧ ∀ j, 0 ≤ j → j < i → (rd_T39 l j).f0 ≠ (rd_T39 l i).f0) ∨ ∃ j, pv = .pointer (some (ad.add (j.toNat * 16))) ∧ 0 ≤ j ∧ j < i ∧ (rd_T39 l j).f0 = (rd_T39 l i).f0 ∧ ∀ m, j < m → m < i → (rd_T39 l m).f0 ≠ (rd_T39 l i).f0) := by
  rcases h.2 _ h1.1 h1.2 with ⟨p, q⟩ | ⟨j, ad', p0, p1, p2, p3, p4, p5⟩
  · exact ⟨_, p, .inl ⟨rfl, q⟩⟩
  · injection p0 with p0
    subst p0
    exact ⟨_, p5, .inr ⟨j, rfl, p1, p2, p3, p4⟩⟩
theorem inv_set {w : World} {l : List S39} {bL bM k m : Nat} {arr : Array Value} {W : World} (h : Inv w l bL bM arr k m W) (hne : bL ≠ bM) (hbl : w.heap.size ≤ bL) (t : Nat) (v : Value) : Inv w l bL bM (arr.setIfInBounds t v) k m (W.setCell ⟨bL, t, none⟩ v) := by
  obtain ⟨h1, ⟨D, h2, h3⟩, h4⟩ := h
  exact ⟨blk_set h1 t v, ⟨D, h2.setCell (a := ⟨bL, t, none⟩) (fun e => hne e.symm) v, h3⟩, h4.setCell (p := ⟨bL, t, none⟩) hbl v⟩
theorem below_of_none {A B : World} (h : A.grownBy B none) : Below A.heap.size A B := (Below.refl _ A).grown h (Nat.le_refl _) (fun k hk => by cases hk)
theorem cnt_none {l : List S39} {D : DataW Unit} {m : Nat} (h : MapIs l D m) {x : Int} (hx : (Lit.int .i64 x).wf = true) (hh : Maps.has D (.int .i64 x) = false) : cntN l x m = 0 := by
  have h2 := h x hx
  rw [Maps.atKey_of_not_has hh] at h2
  injection h2 with h2
  injection h2 with _ h2
  omega
theorem cnt_all {l : List S39} (hw : ∀ c ∈ l, wfC c) (h : ∀ x, (Lit.int .i64 x).wf = true → cntN l x l.length ≤ 1) : ∀ x, cntN l x l.length ≤ 1 := by
  intro x
  by_cases h1 : 1 ≤ cntN l x l.length
  · obtain ⟨j, hj, hm⟩ := cntN_of l.length h1
    have hmem : rd_T39 l (j : Int) ∈ l := rd_mem (by omega) (by omega)
    have hwf := hw _ hmem
    refine h x ?_
    rcases hm with e | ⟨_, e⟩
    · rw [← e]; exact hwf.1
    · rw [← e]; exact hwf.2
  · omega
def lchk.T7 : Bool × List (List Nat × List Nat) := (true, [([], []), ([0], [0]), ([1], [1]), ([2], [2]), ([3], [3]), ([4, 3], [4]), ([5], [5]), ([6, 5], [5, 6]), ([7, 5, 5], [5, 7]), ([8], [8]), ([9, 8], [8, 9]), ([10, 8], [8, 10]), ([11, 8], [8, 11]), ([8], [8]), ([8], [8]), ([14, 8], [8, 14]), ([13, 15, 8], [8, 13, 15]), ([16, 8], [8, 16]), ([17, 8], [8, 17]), ([12, 18, 8], [8, 12, 18]), ([8, 19, 5], [5, 8, 19]), ([5, 20], [5, 20])])
def lchk.B7 : List Nat := [0, 1, 3, 7, 15, 31, 63, 127, 255, 511, 1023, 2047, 4095, 511, 511, 16895, 57855, 123391, 254463, 524287, 1048575, 2097151]
theorem lchk.tab7 : rtab .any (opsOf Try.f16 7) = lchk.T7 := by kernel_rfl
theorem lchk.bits7 : waitsOk lchk.T7.2 lchk.B7 = true := by kernel_rfl
def lchk.T13 : Bool × List (List Nat × List Nat) := (true, [([], []), ([0], [0]), ([1], [1]), ([2], [2]), ([3, 2], [2, 3]), ([4, 2], [2, 4]), ([5, 2, 2], [2, 5]), ([6, 2], [2, 6]), ([7, 6, 2], [2, 7]), ([8], [8]), ([9, 8], [8, 9]), ([10, 8], [8, 10]), ([11, 8], [8, 11]), ([8], [8]), ([13, 8], [8, 13]), ([14, 8], [8, 14]), ([15, 8], [8, 15]), ([12, 16, 8], [8, 12, 16]), ([8, 17, 2], [2, 8, 17]), ([18, 8, 2], [2, 18]), ([19], [19]), ([20, 19], [19, 20]), ([21, 19], [19, 21]), ([22, 19], [19, 22]), ([19], [19]), ([24, 19], [19, 24]), ([25, 19], [19, 25]), ([26, 19], [19, 26]), ([23, 27, 19], [19, 23, 27]), ([19, 28, 2], [2, 19, 28]), ([2, 29], [2, 29])])
def lchk.B13 : List Nat := [0, 1, 3, 7, 15, 31, 63, 127, 255, 511, 1023, 2047, 4095, 511, 8703, 25087, 57855, 131071, 262143, 524287, 1048575, 2097151, 4194303, 8388607, 1048575, 17825791, 51380223, 118489087, 268435455, 536870911, 1073741823]
theorem lchk.tab13 : rtab .any (opsOf Try.f16 13) = lchk.T13 := by kernel_rfl
theorem lchk.bits13 : waitsOk lchk.T13.2 lchk.B13 = true := by kernel_rfl
set_option maxHeartbeats 64000000 in
set_option maxRecDepth 100000 in
theorem lcheck_any (w : World) (A : Option Addr) (c : Nat) (l : List S39) (hr : Kd.C k39 w A l.length l) (hc : l.length ≤ c) (hn : l.length ≤ 1000000000000) (hwf : ∀ x ∈ l, wfC x) :
    Calls Try.prog 16 #[.slice A l.length c] w fun e w' => e = .returned (.int .i64 (refF l)) ∧ Below w.heap.size w w' := by
  have hu39 := Try.underlying39
  have hmm := @run_makeMap Try.prog
  have HR := Lib.hid hr
  have HWF := Lib.hid hwf
  have HN := Lib.hid hn
  clear hr hwf
  go_enter Try.func16, Try.ntmps16
  go_upto_region 4 with (fail)
  clear hmm
  obtain ⟨bL, hbL⟩ : ∃ bL, RowKit.Hid (bL = w.heap.size) := ⟨_, Lib.hid rfl⟩
  obtain ⟨bM, hbM⟩ : ∃ bM, RowKit.Hid (bM = w.heap.size + 1) := ⟨_, Lib.hid rfl⟩
  obtain ⟨W2, hW2⟩ : ∃ W2, (w.alloc (.cells #[.pointer none, .pointer none, .pointer none, .pointer none, .pointer none, .pointer none, .pointer none, .pointer none, .pointer none, .pointer none, .pointer none, .pointer none, .pointer none, .pointer none, .pointer none, .pointer none, .pointer none] 99)).alloc (.map #[] 0) = W2 := ⟨_, rfl⟩
  have I0 : RowKit.Hid (Inv w l bL bM (Array.replicate 17 (.pointer none)) 0 0 W2) := Lib.hid (by
    rw [← hW2, hbL.out, hbM.out]
    exact inv_start w l)
  rw [hW2, ← hbM.out, ← hbL.out]
  clear hW2
  have HNE := Lib.hid (show bL ≠ bM ∧ w.heap.size ≤ bL by rw [hbL.out, hbM.out]; omega)
  go_loopw [13] (fun v13 wr => ∃ i : Int, v13 = .int .i64 i ∧ (0 ≤ i ∧ i ≤ (l.length : Int)) ∧ RowKit.Hid (okP l i) ∧ RowKit.Hid (∃ arr, LastOk l A i arr ∧ Inv w l bL bM arr (2 * i.toNat) i.toNat wr)) (fun v13 _ => ((l.length : Int) - intOf v13).toNat)
  case atStart => exact ⟨0, rfl, ⟨by omega, by omega⟩, Lib.hid (fun i h0 h1 => by omega), Lib.hid ⟨_, last_start l A, I0.out⟩⟩
  case round =>
    clear I0
    obtain ⟨i, rfl, ⟨i0, i1⟩, HO, HI⟩ := hrel
    obtain ⟨arr, hLA, hInv⟩ := HI.out
    have HL := Lib.hid hLA
    have HV := Lib.hid hInv
    clear hLA hInv HI
    by_cases hlt : i < (l.length : Int)
    · have c1 : decide (i < (l.length : Int)) = true := decide_eq_true hlt
      have PI := Lib.hid (show 0 ≤ i ∧ i < (l.length : Int) from ⟨i0, hlt⟩)
      have pI := eq_true PI.out.1
      have qI := eq_true PI.out.2
      have HW := Lib.hid (Kd.C_below HR.out HV.out.2.2)
      obtain ⟨ad, eA, -⟩ := at_T39 HW.out i PI.out.1 PI.out.2
      cases eA
      clear i0 i1 hlt
      go_upto_region 7 with (fail)
      go_cut [40] (fun v40 wc => ∃ b : Bool, v40 = .bool b ∧ RowKit.Hid (bad1 l i = b) ∧ RowKit.Hid (Below wr.heap.size wr wc))
      case first =>
        have HB := Lib.hid (Below.refl wr.heap.size wr)
        cases hm : mayB (rd_T39 l i) with
        | false =>
          have HM := Lib.hid (fun W => callMay_ax (rd_T39 l i).f0 (rd_T39 l i).f1 (rd_T39 l i).f2 (rd_T39 l i).f3 (rd_T39 l i).f4.f0 (rd_T39 l i).f4.f1 (rd_T39 l i).f4.f2 (rd_T39 l i).f4.f3 (rd_T39 l i).f5 (rd_T39 l i).f6 (rd_T39 l i).f7.f0 (rd_T39 l i).f7.f1 (rd_T39 l i).f8.f0 (rd_T39 l i).f8.f1 (rd_T39 l i).f8.f2 (rd_T39 l i).f9 false hm W)
          have hbad : bad1 l i = true := by simp [bad1, hm]
          have HBAD := Lib.hid hbad
          clear hbad hm
          as_aux_lemma =>
            refine start_ (n := 22) (S := fun w1 => Below wr.heap.size wr w1) (ds := []) (ar 22 0) (by kernel_rfl) rfl rfl (below_drew1 HB.out) (fun hHeld => ?_); refine with_tabW lchk.tab7 lchk.bits7 (fun HT_ HW_ => ?_)
            replace HB := Lib.hid (below_drew1 HB.out)
            generalize hwz : wr.drew = wz at HB hHeld ⊢
            clear hwz
            refine pY 0 (some 19) (ar 22 1) HT_ (h := ?_)
            refine pY 1 (some 20) (ar 22 2) HT_ (h := ?_)
            refine take_ (i := 2) (N := (some 21)) (v := ?_) (a' := ?_) (ar 22 3) rfl rfl (take_ofW HT_.out HW_.out (by kernel_rfl)) (fun _ _ _ h => h) (Or.inl ⟨by rfl, ?_⟩) hHeld ?_ ?_; rotate_left; (· rintro w1 hs1; obtain ⟨adI, eI, xI_0, xI_1, xI_2, xI_3, xI_4, xI_5, xI_6, xI_7, xI_8, xI_9, xI_10, xI_11, xI_12, xI_13, xI_14, xI_15⟩ := at_T39 (Kd.C_below HW.out hs1) i PI.out.1 PI.out.2; obtain rfl : ad = adI := (by injection eI); clear hs1; go_simp; with_reducible rfl); rotate_left; (· simp only [Act.put, List.setIfInBounds_toArray, List.set_cons_zero, List.set_cons_succ, i64_w, i32_w]; rfl)
            refine one_ (i := 3) (N := (some 22)) (ar 22 4) rfl rfl (one_of HT_.out (by kernel_rfl)) (by decide) (fun K hK => ?_); refine goes_ Try.func41 (by kernel_rfl) rfl #[.agg #[.int .i64 (rd_T39 l i).f0, .int .i64 (rd_T39 l i).f1, .bool (rd_T39 l i).f2, .string (rd_T39 l i).f3, .int .i64 (rd_T39 l i).f4.f0, .string (rd_T39 l i).f4.f1, .string (rd_T39 l i).f4.f2, .int .i64 (rd_T39 l i).f4.f3, .int .i64 (rd_T39 l i).f5, .int .i64 (rd_T39 l i).f6, .int .i64 (rd_T39 l i).f7.f0, .int .i64 (rd_T39 l i).f7.f1, .string (rd_T39 l i).f8.f0, .string (rd_T39 l i).f8.f1, .int .i64 (rd_T39 l i).f8.f2, .bool (rd_T39 l i).f9]] (by rfl) rfl rfl (by (try simp only [List.map_toArray, List.map_cons, List.map_nil]); first | done | rfl) ?_; with_reducible refine (HM.out _).mono ?_; rintro e w12 ⟨rfl, hb⟩; refine ⟨_, rfl, ?_⟩; replace HB := Lib.hid (below_step HB.out hb); clear hb; refine hK.out _ _ HB.out (fun hHeld => ?_); clear hK K; refine norm_ (a' := ?_) ?_ ?_; rotate_left; (· show Act.put _ (some 22) _ = _; simp only [Act.put, List.setIfInBounds_toArray, List.set_cons_zero, List.set_cons_succ, i64_w, i32_w]; rfl)
            refine pY 4 (some 23) (ar 22 5) HT_ (h := ?_)
            refine pY 5 (some 24) (ar 22 6) HT_ (h := ?_)
            refine sY 6 (some 25) (ar 22 7) HT_ (h := ?_)
            refine sY 7 (some 26) (ar 22 8) HT_ (h := ?_)
            refine sY 8 (some 27) (ar 22 9) HT_ (h := ?_)
            refine sY 9 (some 28) (ar 22 10) HT_ (h := ?_)
            refine sY 10 (some 29) (ar 22 11) HT_ (h := ?_)
            refine sY 11 (some 30) (ar 22 12) HT_ (h := ?_)
            refine sY 12 (some 31) (ar 22 13) HT_ (h := ?_)
            refine sY 13 (some 32) (ar 22 14) HT_ (h := ?_)
            refine sY 14 (some 33) (ar 22 15) HT_ (h := ?_)
            refine sY 15 (some 34) (ar 22 16) HT_ (h := ?_)
            refine sY 16 (some 35) (ar 22 17) HT_ (h := ?_)
            refine sY 17 (some 36) (ar 22 18) HT_ (h := ?_)
            refine sY 18 (some 37) (ar 22 19) HT_ (h := ?_)
            refine sY 19 (some 38) (ar 22 20) HT_ (h := ?_)
            refine sY 20 (some 39) (ar 22 21) HT_ (h := ?_)
            refine pY 21 (some 40) (ar 22 22) HT_ (h := ?_)
            refine done_ (done_of HT_.out (by kernel_rfl)) ?_
            try go_wp2
            go_meet
            case rel => exact ⟨_, rfl, HBAD, HB⟩
        | true =>
          by_cases hi : i > 0
          · have HM := Lib.hid (fun W => callMay_ax (rd_T39 l i).f0 (rd_T39 l i).f1 (rd_T39 l i).f2 (rd_T39 l i).f3 (rd_T39 l i).f4.f0 (rd_T39 l i).f4.f1 (rd_T39 l i).f4.f2 (rd_T39 l i).f4.f3 (rd_T39 l i).f5 (rd_T39 l i).f6 (rd_T39 l i).f7.f0 (rd_T39 l i).f7.f1 (rd_T39 l i).f8.f0 (rd_T39 l i).f8.f1 (rd_T39 l i).f8.f2 (rd_T39 l i).f9 true hm W)
            have hbad : bad1 l i = decide ((rd_T39 l i).f5 ≤ (rd_T39 l (i - 1)).f5) := by simp [bad1, hm, hi]
            have HBAD := Lib.hid hbad
            clear hbad hm
            have hi2 : decide (0 < i) = true := decide_eq_true hi
            obtain ⟨j, hj⟩ : ∃ j : Int, i - 1 = j := ⟨_, rfl⟩
            have hjw : IntKind.i64.wrap (i - 1) = j := by rw [i64_w, ← hj]; unfold wrap64; have := PI.out; omega
            have PJ := Lib.hid (show 0 ≤ j ∧ j < (l.length : Int) by have := PI.out; omega)
            have pJ := eq_true PJ.out.1
            have qJ := eq_true PJ.out.2
            rw [hj] at HBAD
            clear hj hi
            as_aux_lemma =>
              refine start_ (n := 22) (S := fun w1 => Below wr.heap.size wr w1) (ds := []) (ar 22 0) (by kernel_rfl) rfl rfl (below_drew1 HB.out) (fun hHeld => ?_); refine with_tabW lchk.tab7 lchk.bits7 (fun HT_ HW_ => ?_)
              replace HB := Lib.hid (below_drew1 HB.out)
              generalize hwz : wr.drew = wz at HB hHeld ⊢
              clear hwz
              refine pY 0 (some 19) (ar 22 1) HT_ (h := ?_)
              refine pY 1 (some 20) (ar 22 2) HT_ (h := ?_)
              refine take_ (i := 2) (N := (some 21)) (v := ?_) (a' := ?_) (ar 22 3) rfl rfl (take_ofW HT_.out HW_.out (by kernel_rfl)) (fun _ _ _ h => h) (Or.inl ⟨by rfl, ?_⟩) hHeld ?_ ?_; rotate_left; (· rintro w1 hs1; obtain ⟨adI, eI, xI_0, xI_1, xI_2, xI_3, xI_4, xI_5, xI_6, xI_7, xI_8, xI_9, xI_10, xI_11, xI_12, xI_13, xI_14, xI_15⟩ := at_T39 (Kd.C_below HW.out hs1) i PI.out.1 PI.out.2; obtain rfl : ad = adI := (by injection eI); obtain ⟨adJ, eJ, xJ_0, xJ_1, xJ_2, xJ_3, xJ_4, xJ_5, xJ_6, xJ_7, xJ_8, xJ_9, xJ_10, xJ_11, xJ_12, xJ_13, xJ_14, xJ_15⟩ := at_T39 (Kd.C_below HW.out hs1) j PJ.out.1 PJ.out.2; obtain rfl : ad = adJ := (by injection eJ); clear hs1; go_simp; with_reducible rfl); rotate_left; (· simp only [Act.put, List.setIfInBounds_toArray, List.set_cons_zero, List.set_cons_succ, i64_w, i32_w]; rfl)
              refine one_ (i := 3) (N := (some 22)) (ar 22 4) rfl rfl (one_of HT_.out (by kernel_rfl)) (by decide) (fun K hK => ?_); refine goes_ Try.func41 (by kernel_rfl) rfl #[.agg #[.int .i64 (rd_T39 l i).f0, .int .i64 (rd_T39 l i).f1, .bool (rd_T39 l i).f2, .string (rd_T39 l i).f3, .int .i64 (rd_T39 l i).f4.f0, .string (rd_T39 l i).f4.f1, .string (rd_T39 l i).f4.f2, .int .i64 (rd_T39 l i).f4.f3, .int .i64 (rd_T39 l i).f5, .int .i64 (rd_T39 l i).f6, .int .i64 (rd_T39 l i).f7.f0, .int .i64 (rd_T39 l i).f7.f1, .string (rd_T39 l i).f8.f0, .string (rd_T39 l i).f8.f1, .int .i64 (rd_T39 l i).f8.f2, .bool (rd_T39 l i).f9]] (by rfl) rfl rfl (by (try simp only [List.map_toArray, List.map_cons, List.map_nil]); first | done | rfl) ?_; with_reducible refine (HM.out _).mono ?_; rintro e w12 ⟨rfl, hb⟩; refine ⟨_, rfl, ?_⟩; replace HB := Lib.hid (below_step HB.out hb); clear hb; refine hK.out _ _ HB.out (fun hHeld => ?_); clear hK K; refine norm_ (a' := ?_) ?_ ?_; rotate_left; (· show Act.put _ (some 22) _ = _; simp only [Act.put, List.setIfInBounds_toArray, List.set_cons_zero, List.set_cons_succ, i64_w, i32_w]; rfl)
              refine pY 4 (some 23) (ar 22 5) HT_ (h := ?_)
              refine pY 5 (some 24) (ar 22 6) HT_ (h := ?_)
              refine pY 6 (some 25) (ar 22 7) HT_ (h := ?_)
              refine pY 7 (some 26) (ar 22 8) HT_ (h := ?_)
              refine pY 8 (some 27) (ar 22 9) HT_ (h := ?_)
              refine pY 9 (some 28) (ar 22 10) HT_ (h := ?_)
              refine pY 10 (some 29) (ar 22 11) HT_ (h := ?_)
              refine pY 11 (some 30) (ar 22 12) HT_ (h := ?_)
              refine take_ (i := 12) (N := (some 31)) (v := ?_) (a' := ?_) (ar 22 13) rfl rfl (take_ofW HT_.out HW_.out (by kernel_rfl)) (fun _ _ _ h => h) (Or.inl ⟨by rfl, ?_⟩) hHeld ?_ ?_; rotate_left; (· rintro w1 hs1; obtain ⟨adI, eI, xI_0, xI_1, xI_2, xI_3, xI_4, xI_5, xI_6, xI_7, xI_8, xI_9, xI_10, xI_11, xI_12, xI_13, xI_14, xI_15⟩ := at_T39 (Kd.C_below HW.out hs1) i PI.out.1 PI.out.2; obtain rfl : ad = adI := (by injection eI); obtain ⟨adJ, eJ, xJ_0, xJ_1, xJ_2, xJ_3, xJ_4, xJ_5, xJ_6, xJ_7, xJ_8, xJ_9, xJ_10, xJ_11, xJ_12, xJ_13, xJ_14, xJ_15⟩ := at_T39 (Kd.C_below HW.out hs1) j PJ.out.1 PJ.out.2; obtain rfl : ad = adJ := (by injection eJ); clear hs1; go_simp; with_reducible rfl); rotate_left; (· simp only [Act.put, List.setIfInBounds_toArray, List.set_cons_zero, List.set_cons_succ, i64_w, i32_w]; rfl)
              refine pY 13 (some 32) (ar 22 14) HT_ (h := ?_)
              refine pY 14 (some 33) (ar 22 15) HT_ (h := ?_)
              refine pY 15 (some 34) (ar 22 16) HT_ (h := ?_)
              refine pY 16 (some 35) (ar 22 17) HT_ (h := ?_)
              refine pY 17 (some 36) (ar 22 18) HT_ (h := ?_)
              refine take_ (i := 18) (N := (some 37)) (v := ?_) (a' := ?_) (ar 22 19) rfl rfl (take_ofW HT_.out HW_.out (by kernel_rfl)) (fun _ _ _ h => h) (Or.inl ⟨by rfl, ?_⟩) hHeld ?_ ?_; rotate_left; (· rintro w1 hs1; obtain ⟨adI, eI, xI_0, xI_1, xI_2, xI_3, xI_4, xI_5, xI_6, xI_7, xI_8, xI_9, xI_10, xI_11, xI_12, xI_13, xI_14, xI_15⟩ := at_T39 (Kd.C_below HW.out hs1) i PI.out.1 PI.out.2; obtain rfl : ad = adI := (by injection eI); obtain ⟨adJ, eJ, xJ_0, xJ_1, xJ_2, xJ_3, xJ_4, xJ_5, xJ_6, xJ_7, xJ_8, xJ_9, xJ_10, xJ_11, xJ_12, xJ_13, xJ_14, xJ_15⟩ := at_T39 (Kd.C_below HW.out hs1) j PJ.out.1 PJ.out.2; obtain rfl : ad = adJ := (by injection eJ); clear hs1; go_simp; with_reducible rfl); rotate_left; (· simp only [Act.put, List.setIfInBounds_toArray, List.set_cons_zero, List.set_cons_succ, i64_w, i32_w]; rfl)
              refine pY 19 (some 38) (ar 22 20) HT_ (h := ?_)
              refine pY 20 (some 39) (ar 22 21) HT_ (h := ?_)
              refine pY 21 (some 40) (ar 22 22) HT_ (h := ?_)
              refine done_ (done_of HT_.out (by kernel_rfl)) ?_
              try go_wp2
              go_meet
              case rel => exact ⟨_, rfl, HBAD, HB⟩
          · have HM := Lib.hid (fun W => callMay_ax (rd_T39 l i).f0 (rd_T39 l i).f1 (rd_T39 l i).f2 (rd_T39 l i).f3 (rd_T39 l i).f4.f0 (rd_T39 l i).f4.f1 (rd_T39 l i).f4.f2 (rd_T39 l i).f4.f3 (rd_T39 l i).f5 (rd_T39 l i).f6 (rd_T39 l i).f7.f0 (rd_T39 l i).f7.f1 (rd_T39 l i).f8.f0 (rd_T39 l i).f8.f1 (rd_T39 l i).f8.f2 (rd_T39 l i).f9 true hm W)
            have hbad : bad1 l i = false := by simp [bad1, hm, hi]
            have HBAD := Lib.hid hbad
            clear hbad hm
            have hi2 : decide (0 < i) = false := decide_eq_false hi
            clear hi
            as_aux_lemma =>
              refine start_ (n := 22) (S := fun w1 => Below wr.heap.size wr w1) (ds := []) (ar 22 0) (by kernel_rfl) rfl rfl (below_drew1 HB.out) (fun hHeld => ?_); refine with_tabW lchk.tab7 lchk.bits7 (fun HT_ HW_ => ?_)
              replace HB := Lib.hid (below_drew1 HB.out)
              generalize hwz : wr.drew = wz at HB hHeld ⊢
              clear hwz
              refine pY 0 (some 19) (ar 22 1) HT_ (h := ?_)
              refine pY 1 (some 20) (ar 22 2) HT_ (h := ?_)
              refine take_ (i := 2) (N := (some 21)) (v := ?_) (a' := ?_) (ar 22 3) rfl rfl (take_ofW HT_.out HW_.out (by kernel_rfl)) (fun _ _ _ h => h) (Or.inl ⟨by rfl, ?_⟩) hHeld ?_ ?_; rotate_left; (· rintro w1 hs1; obtain ⟨adI, eI, xI_0, xI_1, xI_2, xI_3, xI_4, xI_5, xI_6, xI_7, xI_8, xI_9, xI_10, xI_11, xI_12, xI_13, xI_14, xI_15⟩ := at_T39 (Kd.C_below HW.out hs1) i PI.out.1 PI.out.2; obtain rfl : ad = adI := (by injection eI); clear hs1; go_simp; with_reducible rfl); rotate_left; (· simp only [Act.put, List.setIfInBounds_toArray, List.set_cons_zero, List.set_cons_succ, i64_w, i32_w]; rfl)
              refine one_ (i := 3) (N := (some 22)) (ar 22 4) rfl rfl (one_of HT_.out (by kernel_rfl)) (by decide) (fun K hK => ?_); refine goes_ Try.func41 (by kernel_rfl) rfl #[.agg #[.int .i64 (rd_T39 l i).f0, .int .i64 (rd_T39 l i).f1, .bool (rd_T39 l i).f2, .string (rd_T39 l i).f3, .int .i64 (rd_T39 l i).f4.f0, .string (rd_T39 l i).f4.f1, .string (rd_T39 l i).f4.f2, .int .i64 (rd_T39 l i).f4.f3, .int .i64 (rd_T39 l i).f5, .int .i64 (rd_T39 l i).f6, .int .i64 (rd_T39 l i).f7.f0, .int .i64 (rd_T39 l i).f7.f1, .string (rd_T39 l i).f8.f0, .string (rd_T39 l i).f8.f1, .int .i64 (rd_T39 l i).f8.f2, .bool (rd_T39 l i).f9]] (by rfl) rfl rfl (by (try simp only [List.map_toArray, List.map_cons, List.map_nil]); first | done | rfl) ?_; with_reducible refine (HM.out _).mono ?_; rintro e w12 ⟨rfl, hb⟩; refine ⟨_, rfl, ?_⟩; replace HB := Lib.hid (below_step HB.out hb); clear hb; refine hK.out _ _ HB.out (fun hHeld => ?_); clear hK K; refine norm_ (a' := ?_) ?_ ?_; rotate_left; (· show Act.put _ (some 22) _ = _; simp only [Act.put, List.setIfInBounds_toArray, List.set_cons_zero, List.set_cons_succ, i64_w, i32_w]; rfl)
              refine pY 4 (some 23) (ar 22 5) HT_ (h := ?_)
              refine pY 5 (some 24) (ar 22 6) HT_ (h := ?_)
              refine pY 6 (some 25) (ar 22 7) HT_ (h := ?_)
              refine pY 7 (some 26) (ar 22 8) HT_ (h := ?_)
              refine pY 8 (some 27) (ar 22 9) HT_ (h := ?_)
              refine sY 9 (some 28) (ar 22 10) HT_ (h := ?_)
              refine sY 10 (some 29) (ar 22 11) HT_ (h := ?_)
              refine sY 11 (some 30) (ar 22 12) HT_ (h := ?_)
              refine sY 12 (some 31) (ar 22 13) HT_ (h := ?_)
              refine sY 13 (some 32) (ar 22 14) HT_ (h := ?_)
              refine sY 14 (some 33) (ar 22 15) HT_ (h := ?_)
              refine sY 15 (some 34) (ar 22 16) HT_ (h := ?_)
              refine sY 16 (some 35) (ar 22 17) HT_ (h := ?_)
              refine sY 17 (some 36) (ar 22 18) HT_ (h := ?_)
              refine sY 18 (some 37) (ar 22 19) HT_ (h := ?_)
              refine sY 19 (some 38) (ar 22 20) HT_ (h := ?_)
              refine pY 20 (some 39) (ar 22 21) HT_ (h := ?_)
              refine pY 21 (some 40) (ar 22 22) HT_ (h := ?_)
              refine done_ (done_of HT_.out (by kernel_rfl)) ?_
              try go_wp2
              go_meet
              case rel => exact ⟨_, rfl, HBAD, HB⟩
      case rest =>
        obtain ⟨b, rfl, H1, HB⟩ := hcut
        cases b with
        | true =>
          have HX := Lib.hid (refF_bad1 PI.out.1 PI.out.2 H1.out)
          go_wp2
          go_ret
          exact ⟨ret_i HX.out.symm, (HV.out.below HB.out).2.2⟩
        | false =>
          have HM := Lib.hid (may_client (bad1_may H1.out))
          have V2 := Lib.hid (HV.out.below HB.out)
          obtain ⟨D, hD, hMI⟩ := V2.out.2.1
          have OD := Lib.hid hD
          have MI := Lib.hid hMI
          have WF := Lib.hid (HWF.out _ (rd_mem PI.out.1 PI.out.2))
          clear hD hMI
          obtain ⟨adI, eI, xI_0, xI_1, xI_2, xI_3, xI_4, xI_5, xI_6, xI_7, xI_8, xI_9, xI_10, xI_11, xI_12, xI_13, xI_14, xI_15⟩ := at_T39 (Kd.C_below HW.out HB.out) i PI.out.1 PI.out.2
          obtain rfl : ad = adI := (by injection eI)
          clear eI
          go_upto_region 10 with (first
            | (at_lookup; refine wpList_lookup_own_int _ rfl _ _ 100 rfl 3 3 .i64 law3 Try.underlying100 Try.underlying3 (zero3 _) bM (2 * i.toNat) _ rfl (OD.out) _ _ rfl (keyOf_int_mk Try.underlying3 WF.out.1) ?_; intro q hat hwc; have HAT := Lib.hid (And.intro hat hwc); clear hat hwc)
            | (at_mapUpdate; refine wpList_mapUpdate_own _ rfl _ _ _ 100 rfl 3 3 law3 Try.underlying100 _ bM (2 * i.toNat) _ rfl (OD.out) (by have := HN.out; have := PI.out; unfold maxLen; omega) _ _ _ rfl rfl (keyOf_int_mk Try.underlying3 WF.out.1) _ [] (plainElem_int Try.underlying3 (wrap64_wf _)) ?_; intro w5 hown5 hgrow5; have M5 := Lib.hid (And.intro hown5 hgrow5); clear hown5 hgrow5)
            | (fail))
          clear xI_0 xI_1 xI_2 xI_3 xI_4 xI_5 xI_6 xI_7 xI_8 xI_9 xI_10 xI_11 xI_12 xI_13 xI_14 xI_15
          have T5 := Lib.hid (inv_up V2.out.1 V2.out.2.2 HNE.out.1 HNE.out.2 hbM.out M5.out.1 M5.out.2 WF.out.1 MI.out (by have h1 := cntN_le l (rd_T39 l i).f5 i.toNat; have h2 := PI.out; have h3 := HN.out; omega) HAT.out.1 OD.out.isMap)
          obtain ⟨adI, eI, xI_0, xI_1, xI_2, xI_3, xI_4, xI_5, xI_6, xI_7, xI_8, xI_9, xI_10, xI_11, xI_12, xI_13, xI_14, xI_15⟩ := at_T39 (Kd.C_below HR.out T5.out.2.2) i PI.out.1 PI.out.2
          obtain rfl : ad = adI := (by injection eI)
          clear eI
          have HA := Lib.hid (fun W => answered_any (rd_T39 l i).f0 (rd_T39 l i).f1 (rd_T39 l i).f2 (rd_T39 l i).f3 (rd_T39 l i).f4.f0 (rd_T39 l i).f4.f1 (rd_T39 l i).f4.f2 (rd_T39 l i).f4.f3 (rd_T39 l i).f5 (rd_T39 l i).f6 (rd_T39 l i).f7.f0 (rd_T39 l i).f7.f1 (rd_T39 l i).f8.f0 (rd_T39 l i).f8.f1 (rd_T39 l i).f8.f2 (rd_T39 l i).f9 _ rfl W)
          go_upto_if 51 with (first
            | (go_at_call 42; refine (HA.out _).mono ?_; rintro e w6 ⟨rfl, hb6⟩; have B6 := Lib.hid hb6; clear hb6)
            | (fail))
          obtain ⟨D5, hD5, hM5⟩ := T5.out.2.1
          have V6 := Lib.hid (And.intro (blk_below T5.out.1 B6.out) (And.intro (T5.out.2.2.trans (B6.out.mono T5.out.2.2.size)) (And.intro (hD5.kept (grown_b B6.out) (by simp)) hM5)))
          clear hD5 hM5 xI_0 xI_1 xI_2 xI_3 xI_4 xI_5 xI_6 xI_7 xI_8 xI_9 xI_10 xI_11 xI_12 xI_13 xI_14 xI_15
          go_cut [58] (fun v58 wb => RowKit.Hid (Inv w l bL bM arr (2 * i.toNat + 2) (i.toNat + 1) wb))
          case first =>
            cases ha : ((rd_T39 l i).f6 != -1) with
            | false =>
              have FIN : RowKit.Hid (Inv w l bL bM arr (2 * i.toNat + 2) (i.toNat + 1) w6) := Lib.hid ⟨V6.out.1, ⟨D5, V6.out.2.2.1.mono (by omega), mapis_no PI.out.1 ha V6.out.2.2.2⟩, V6.out.2.1⟩
              clear ha
              go_wp2
              go_meet
              case rel => exact FIN
            | true =>
              have HAN := Lib.hid ha
              clear ha
              obtain ⟨adI, eI, xI_0, xI_1, xI_2, xI_3, xI_4, xI_5, xI_6, xI_7, xI_8, xI_9, xI_10, xI_11, xI_12, xI_13, xI_14, xI_15⟩ := at_T39 (Kd.C_below HR.out V6.out.2.1) i PI.out.1 PI.out.2
              obtain rfl : ad = adI := (by injection eI)
              clear eI
              go_wp2_with (first
                | (at_lookup; refine wpList_lookup_own_int _ rfl _ _ 100 rfl 3 3 .i64 law3 Try.underlying100 Try.underlying3 (zero3 _) bM (2 * i.toNat + 1) _ rfl (V6.out.2.2.1) _ _ rfl (keyOf_int_mk Try.underlying3 WF.out.2) ?_; intro q hat hwc; have HATb := Lib.hid (And.intro hat hwc); clear hat hwc)
                | (at_mapUpdate; refine wpList_mapUpdate_own _ rfl _ _ _ 100 rfl 3 3 law3 Try.underlying100 _ bM (2 * i.toNat + 1) _ rfl (V6.out.2.2.1) (by have := HN.out; have := PI.out; unfold maxLen; omega) _ _ _ rfl rfl (keyOf_int_mk Try.underlying3 WF.out.2) _ [] (plainElem_int Try.underlying3 (wrap64_wf _)) ?_; intro w5b hown5 hgrow5; have M5b := Lib.hid (And.intro hown5 hgrow5); clear hown5 hgrow5)
                | (fail))
              go_meet
              case rel =>
                have T7 := inv_up V6.out.1 V6.out.2.1 HNE.out.1 HNE.out.2 hbM.out M5b.out.1 M5b.out.2 WF.out.2 V6.out.2.2.2 (by have h1 := cntN_le l (rd_T39 l i).f6 i.toNat; have h2 := PI.out; have h3 := HN.out; (try dsimp only); split <;> omega) HATb.out.1 V6.out.2.2.1.isMap
                obtain ⟨D7, hD7, hM7⟩ := T7.2.1
                exact Lib.hid ⟨T7.1, ⟨D7, hD7, mapis_yes PI.out.1 HAN.out hM7⟩, T7.2.2⟩
          case rest =>
            obtain ⟨wb, rfl⟩ : ∃ wb : World, wb = wc := ⟨_, rfl⟩
            have V3 := hcut
            clear V6 V2 OD MI T5 M5 HAT B6 HB HW hcut
            have HW := Lib.hid (Kd.C_below HR.out V3.out.2.2)
            obtain ⟨adI, eI, xI_0, xI_1, xI_2, xI_3, xI_4, xI_5, xI_6, xI_7, xI_8, xI_9, xI_10, xI_11, xI_12, xI_13, xI_14, xI_15⟩ := at_T39 HW.out i PI.out.1 PI.out.2
            obtain rfl : ad = adI := (by injection eI)
            clear eI
            obtain ⟨pv, hpv, hcase⟩ := last_case HL.out HM.out
            have HC := Lib.hid hcase
            have PV := Lib.hid hpv
            have cl0 := eq_true (show 0 ≤ (rd_T39 l i).f0 by have := HM.out.1; omega)
            have cl1 := eq_true (show (rd_T39 l i).f0 < 17 by have := HM.out.2; omega)
            have cL : wb.cell? ⟨bL, (rd_T39 l i).f0.toNat, none⟩ = some pv := (blk_cell V3.out.1 _).trans PV.out
            clear hpv hcase
            go_upto_region 13 with (fail)
            clear xI_0 xI_1 xI_2 xI_3 xI_4 xI_5 xI_6 xI_7 xI_8 xI_9 xI_10 xI_11 xI_12 xI_13 xI_14 xI_15 cL
            go_cut [95] (fun v95 wc => ∃ b : Bool, v95 = .bool b ∧ RowKit.Hid (cutP l i b) ∧ RowKit.Hid (Below wb.heap.size wb wc))
            case first =>
              have HB := Lib.hid (Below.refl wb.heap.size wb)
              rcases HC.out with ⟨rfl, hno⟩ | ⟨j, rfl, j0, j1, j2, j3⟩
              · have HBAD : RowKit.Hid (cutP l i false) := Lib.hid ⟨fun _ j hj => absurd hj (lastOf_none hno), fun h => by cases h⟩
                clear hno
                as_aux_lemma =>
                  refine start_ (n := 31) (S := fun w1 => Below wb.heap.size wb w1) (ds := []) (ar 31 0) (by kernel_rfl) rfl rfl (below_drew1 HB.out) (fun hHeld => ?_); refine with_tabW lchk.tab13 lchk.bits13 (fun HT_ HW_ => ?_)
                  replace HB := Lib.hid (below_drew1 HB.out)
                  generalize hwz : wb.drew = wz at HB hHeld ⊢
                  clear hwz
                  refine pY 0 (some 65) (ar 31 1) HT_ (h := ?_)
                  refine pY 1 (some 66) (ar 31 2) HT_ (h := ?_)
                  refine pY 2 (some 67) (ar 31 3) HT_ (h := ?_)
                  refine sY 3 (some 68) (ar 31 4) HT_ (h := ?_)
                  refine sY 4 (some 69) (ar 31 5) HT_ (h := ?_)
                  refine sY 5 (some 70) (ar 31 6) HT_ (h := ?_)
                  refine sY 6 (some 71) (ar 31 7) HT_ (h := ?_)
                  refine sY 7 (some 72) (ar 31 8) HT_ (h := ?_)
                  refine sY 8 (some 73) (ar 31 9) HT_ (h := ?_)
                  refine sY 9 (some 74) (ar 31 10) HT_ (h := ?_)
                  refine sY 10 (some 75) (ar 31 11) HT_ (h := ?_)
                  refine sY 11 (some 76) (ar 31 12) HT_ (h := ?_)
                  refine sY 12 (some 77) (ar 31 13) HT_ (h := ?_)
                  refine sY 13 (some 78) (ar 31 14) HT_ (h := ?_)
                  refine sY 14 (some 79) (ar 31 15) HT_ (h := ?_)
                  refine sY 15 (some 80) (ar 31 16) HT_ (h := ?_)
                  refine sY 16 (some 81) (ar 31 17) HT_ (h := ?_)
                  refine sY 17 (some 82) (ar 31 18) HT_ (h := ?_)
                  refine sY 18 (some 83) (ar 31 19) HT_ (h := ?_)
                  refine sY 19 (some 84) (ar 31 20) HT_ (h := ?_)
                  refine sY 20 (some 85) (ar 31 21) HT_ (h := ?_)
                  refine sY 21 (some 86) (ar 31 22) HT_ (h := ?_)
                  refine sY 22 (some 87) (ar 31 23) HT_ (h := ?_)
                  refine sY 23 (some 88) (ar 31 24) HT_ (h := ?_)
                  refine sY 24 (some 89) (ar 31 25) HT_ (h := ?_)
                  refine sY 25 (some 90) (ar 31 26) HT_ (h := ?_)
                  refine sY 26 (some 91) (ar 31 27) HT_ (h := ?_)
                  refine sY 27 (some 92) (ar 31 28) HT_ (h := ?_)
                  refine sY 28 (some 93) (ar 31 29) HT_ (h := ?_)
                  refine sY 29 (some 94) (ar 31 30) HT_ (h := ?_)
                  refine pY 30 (some 95) (ar 31 31) HT_ (h := ?_)
                  refine done_ (done_of HT_.out (by kernel_rfl)) ?_
                  try go_wp2
                  go_meet
                  case rel => exact ⟨_, rfl, HBAD, HB⟩
              · have PJ := Lib.hid (show 0 ≤ j ∧ j < (l.length : Int) by have := PI.out; omega)
                have pJ := eq_true PJ.out.1
                have qJ := eq_true PJ.out.2
                have ONE : RowKit.Hid (∀ k, lastOf l i k → k = j) := Lib.hid (fun k hk => lastOf_one j0 j1 j2 j3 hk)
                have J := Lib.hid (And.intro j0 (And.intro j1 j2))
                clear j0 j1 j2 j3
                cases ha : ansB (rd_T39 l j) with
                | false =>
                  have hbad : bad3 l i j = true := by simp [bad3, ha, J.out.2.1, J.out.2.2]
                  have HBAD : RowKit.Hid (cutP l i (true)) := Lib.hid ⟨fun h k hk => by rw [ONE.out k hk, hbad]; exact h, fun h => refF_bad3 PI.out.1 PI.out.2 J.out.1 J.out.2.1 (hbad.trans h)⟩
                  clear hbad
                  have ha' : ((rd_T39 l j).f6 != -1) = false := ha
                  have HA := Lib.hid (fun W => answered_any (rd_T39 l j).f0 (rd_T39 l j).f1 (rd_T39 l j).f2 (rd_T39 l j).f3 (rd_T39 l j).f4.f0 (rd_T39 l j).f4.f1 (rd_T39 l j).f4.f2 (rd_T39 l j).f4.f3 (rd_T39 l j).f5 (rd_T39 l j).f6 (rd_T39 l j).f7.f0 (rd_T39 l j).f7.f1 (rd_T39 l j).f8.f0 (rd_T39 l j).f8.f1 (rd_T39 l j).f8.f2 (rd_T39 l j).f9 false ha' W)
                  clear ha ha'
                  as_aux_lemma =>
                    refine start_ (n := 31) (S := fun w1 => Below wb.heap.size wb w1) (ds := []) (ar 31 0) (by kernel_rfl) rfl rfl (below_drew1 HB.out) (fun hHeld => ?_); refine with_tabW lchk.tab13 lchk.bits13 (fun HT_ HW_ => ?_)
                    replace HB := Lib.hid (below_drew1 HB.out)
                    generalize hwz : wb.drew = wz at HB hHeld ⊢
                    clear hwz
                    refine pY 0 (some 65) (ar 31 1) HT_ (h := ?_)
                    refine pY 1 (some 66) (ar 31 2) HT_ (h := ?_)
                    refine pY 2 (some 67) (ar 31 3) HT_ (h := ?_)
                    refine pY 3 (some 68) (ar 31 4) HT_ (h := ?_)
                    refine pY 4 (some 69) (ar 31 5) HT_ (h := ?_)
                    refine take_ (i := 5) (N := (some 70)) (v := ?_) (a' := ?_) (ar 31 6) rfl rfl (take_ofW HT_.out HW_.out (by kernel_rfl)) (fun _ _ _ h => h) (Or.inl ⟨by rfl, ?_⟩) hHeld ?_ ?_; rotate_left; (· rintro w1 hs1; obtain ⟨adI, eI, xI_0, xI_1, xI_2, xI_3, xI_4, xI_5, xI_6, xI_7, xI_8, xI_9, xI_10, xI_11, xI_12, xI_13, xI_14, xI_15⟩ := at_T39 (Kd.C_below HW.out hs1) i PI.out.1 PI.out.2; obtain rfl : ad = adI := (by injection eI); obtain ⟨adJ, eJ, xJ_0, xJ_1, xJ_2, xJ_3, xJ_4, xJ_5, xJ_6, xJ_7, xJ_8, xJ_9, xJ_10, xJ_11, xJ_12, xJ_13, xJ_14, xJ_15⟩ := at_T39 (Kd.C_below HW.out hs1) j PJ.out.1 PJ.out.2; obtain rfl : ad = adJ := (by injection eJ); clear hs1; go_simp; with_reducible rfl); rotate_left; (· simp only [Act.put, List.setIfInBounds_toArray, List.set_cons_zero, List.set_cons_succ, i64_w, i32_w]; rfl)
                    refine one_ (i := 6) (N := (some 71)) (ar 31 7) rfl rfl (one_of HT_.out (by kernel_rfl)) (by decide) (fun K hK => ?_); refine goes_ Try.func42 (by kernel_rfl) rfl #[.agg #[.int .i64 (rd_T39 l j).f0, .int .i64 (rd_T39 l j).f1, .bool (rd_T39 l j).f2, .string (rd_T39 l j).f3, .int .i64 (rd_T39 l j).f4.f0, .string (rd_T39 l j).f4.f1, .string (rd_T39 l j).f4.f2, .int .i64 (rd_T39 l j).f4.f3, .int .i64 (rd_T39 l j).f5, .int .i64 (rd_T39 l j).f6, .int .i64 (rd_T39 l j).f7.f0, .int .i64 (rd_T39 l j).f7.f1, .string (rd_T39 l j).f8.f0, .string (rd_T39 l j).f8.f1, .int .i64 (rd_T39 l j).f8.f2, .bool (rd_T39 l j).f9]] (by rfl) rfl rfl (by (try simp only [List.map_toArray, List.map_cons, List.map_nil]); first | done | rfl) ?_; with_reducible refine (HA.out _).mono ?_; rintro e w12 ⟨rfl, hb⟩; refine ⟨_, rfl, ?_⟩; replace HB := Lib.hid (below_step HB.out hb); clear hb; refine hK.out _ _ HB.out (fun hHeld => ?_); clear hK K; refine norm_ (a' := ?_) ?_ ?_; rotate_left; (· show Act.put _ (some 71) _ = _; simp only [Act.put, List.setIfInBounds_toArray, List.set_cons_zero, List.set_cons_succ, i64_w, i32_w]; rfl)
                    refine pY 7 (some 72) (ar 31 8) HT_ (h := ?_)
                    refine pY 8 (some 73) (ar 31 9) HT_ (h := ?_)
                    refine sY 9 (some 74) (ar 31 10) HT_ (h := ?_)
                    refine sY 10 (some 75) (ar 31 11) HT_ (h := ?_)
                    refine sY 11 (some 76) (ar 31 12) HT_ (h := ?_)
                    refine sY 12 (some 77) (ar 31 13) HT_ (h := ?_)
                    refine sY 13 (some 78) (ar 31 14) HT_ (h := ?_)
                    refine sY 14 (some 79) (ar 31 15) HT_ (h := ?_)
                    refine sY 15 (some 80) (ar 31 16) HT_ (h := ?_)
                    refine sY 16 (some 81) (ar 31 17) HT_ (h := ?_)
                    refine sY 17 (some 82) (ar 31 18) HT_ (h := ?_)
                    refine pY 18 (some 83) (ar 31 19) HT_ (h := ?_)
                    refine pY 19 (some 84) (ar 31 20) HT_ (h := ?_)
                    refine sY 20 (some 85) (ar 31 21) HT_ (h := ?_)
                    refine sY 21 (some 86) (ar 31 22) HT_ (h := ?_)
                    refine sY 22 (some 87) (ar 31 23) HT_ (h := ?_)
                    refine sY 23 (some 88) (ar 31 24) HT_ (h := ?_)
                    refine sY 24 (some 89) (ar 31 25) HT_ (h := ?_)
                    refine sY 25 (some 90) (ar 31 26) HT_ (h := ?_)
                    refine sY 26 (some 91) (ar 31 27) HT_ (h := ?_)
                    refine sY 27 (some 92) (ar 31 28) HT_ (h := ?_)
                    refine sY 28 (some 93) (ar 31 29) HT_ (h := ?_)
                    refine pY 29 (some 94) (ar 31 30) HT_ (h := ?_)
                    refine pY 30 (some 95) (ar 31 31) HT_ (h := ?_)
                    refine done_ (done_of HT_.out (by kernel_rfl)) ?_
                    try go_wp2
                    go_meet
                    case rel => exact ⟨_, rfl, HBAD, HB⟩
                | true =>
                  have ha' : ((rd_T39 l j).f6 != -1) = true := ha
                  have HA := Lib.hid (fun W => answered_any (rd_T39 l j).f0 (rd_T39 l j).f1 (rd_T39 l j).f2 (rd_T39 l j).f3 (rd_T39 l j).f4.f0 (rd_T39 l j).f4.f1 (rd_T39 l j).f4.f2 (rd_T39 l j).f4.f3 (rd_T39 l j).f5 (rd_T39 l j).f6 (rd_T39 l j).f7.f0 (rd_T39 l j).f7.f1 (rd_T39 l j).f8.f0 (rd_T39 l j).f8.f1 (rd_T39 l j).f8.f2 (rd_T39 l j).f9 true ha' W)
                  by_cases he : (rd_T39 l j).f6 ≥ (rd_T39 l i).f5
                  · have hbad : bad3 l i j = true := by simp [bad3, ha, J.out.2.1, J.out.2.2, he]
                    have HBAD : RowKit.Hid (cutP l i (true)) := Lib.hid ⟨fun h k hk => by rw [ONE.out k hk, hbad]; exact h, fun h => refF_bad3 PI.out.1 PI.out.2 J.out.1 J.out.2.1 (hbad.trans h)⟩
                    clear hbad
                    have he' : decide ((rd_T39 l j).f6 ≥ (rd_T39 l i).f5) = true := decide_eq_true he
                    clear ha ha' he
                    as_aux_lemma =>
                      refine start_ (n := 31) (S := fun w1 => Below wb.heap.size wb w1) (ds := []) (ar 31 0) (by kernel_rfl) rfl rfl (below_drew1 HB.out) (fun hHeld => ?_); refine with_tabW lchk.tab13 lchk.bits13 (fun HT_ HW_ => ?_)
                      replace HB := Lib.hid (below_drew1 HB.out)
                      generalize hwz : wb.drew = wz at HB hHeld ⊢
                      clear hwz
                      refine pY 0 (some 65) (ar 31 1) HT_ (h := ?_)
                      refine pY 1 (some 66) (ar 31 2) HT_ (h := ?_)
                      refine pY 2 (some 67) (ar 31 3) HT_ (h := ?_)
                      refine pY 3 (some 68) (ar 31 4) HT_ (h := ?_)
                      refine pY 4 (some 69) (ar 31 5) HT_ (h := ?_)
                      refine take_ (i := 5) (N := (some 70)) (v := ?_) (a' := ?_) (ar 31 6) rfl rfl (take_ofW HT_.out HW_.out (by kernel_rfl)) (fun _ _ _ h => h) (Or.inl ⟨by rfl, ?_⟩) hHeld ?_ ?_; rotate_left; (· rintro w1 hs1; obtain ⟨adI, eI, xI_0, xI_1, xI_2, xI_3, xI_4, xI_5, xI_6, xI_7, xI_8, xI_9, xI_10, xI_11, xI_12, xI_13, xI_14, xI_15⟩ := at_T39 (Kd.C_below HW.out hs1) i PI.out.1 PI.out.2; obtain rfl : ad = adI := (by injection eI); obtain ⟨adJ, eJ, xJ_0, xJ_1, xJ_2, xJ_3, xJ_4, xJ_5, xJ_6, xJ_7, xJ_8, xJ_9, xJ_10, xJ_11, xJ_12, xJ_13, xJ_14, xJ_15⟩ := at_T39 (Kd.C_below HW.out hs1) j PJ.out.1 PJ.out.2; obtain rfl : ad = adJ := (by injection eJ); clear hs1; go_simp; with_reducible rfl); rotate_left; (· simp only [Act.put, List.setIfInBounds_toArray, List.set_cons_zero, List.set_cons_succ, i64_w, i32_w]; rfl)
                      refine one_ (i := 6) (N := (some 71)) (ar 31 7) rfl rfl (one_of HT_.out (by kernel_rfl)) (by decide) (fun K hK => ?_); refine goes_ Try.func42 (by kernel_rfl) rfl #[.agg #[.int .i64 (rd_T39 l j).f0, .int .i64 (rd_T39 l j).f1, .bool (rd_T39 l j).f2, .string (rd_T39 l j).f3, .int .i64 (rd_T39 l j).f4.f0, .string (rd_T39 l j).f4.f1, .string (rd_T39 l j).f4.f2, .int .i64 (rd_T39 l j).f4.f3, .int .i64 (rd_T39 l j).f5, .int .i64 (rd_T39 l j).f6, .int .i64 (rd_T39 l j).f7.f0, .int .i64 (rd_T39 l j).f7.f1, .string (rd_T39 l j).f8.f0, .string (rd_T39 l j).f8.f1, .int .i64 (rd_T39 l j).f8.f2, .bool (rd_T39 l j).f9]] (by rfl) rfl rfl (by (try simp only [List.map_toArray, List.map_cons, List.map_nil]); first | done | rfl) ?_; with_reducible refine (HA.out _).mono ?_; rintro e w12 ⟨rfl, hb⟩; refine ⟨_, rfl, ?_⟩; replace HB := Lib.hid (below_step HB.out hb); clear hb; refine hK.out _ _ HB.out (fun hHeld => ?_); clear hK K; refine norm_ (a' := ?_) ?_ ?_; rotate_left; (· show Act.put _ (some 71) _ = _; simp only [Act.put, List.setIfInBounds_toArray, List.set_cons_zero, List.set_cons_succ, i64_w, i32_w]; rfl)
                      refine pY 7 (some 72) (ar 31 8) HT_ (h := ?_)
                      refine pY 8 (some 73) (ar 31 9) HT_ (h := ?_)
                      refine pY 9 (some 74) (ar 31 10) HT_ (h := ?_)
                      refine pY 10 (some 75) (ar 31 11) HT_ (h := ?_)
                      refine pY 11 (some 76) (ar 31 12) HT_ (h := ?_)
                      refine take_ (i := 12) (N := (some 77)) (v := ?_) (a' := ?_) (ar 31 13) rfl rfl (take_ofW HT_.out HW_.out (by kernel_rfl)) (fun _ _ _ h => h) (Or.inl ⟨by rfl, ?_⟩) hHeld ?_ ?_; rotate_left; (· rintro w1 hs1; obtain ⟨adI, eI, xI_0, xI_1, xI_2, xI_3, xI_4, xI_5, xI_6, xI_7, xI_8, xI_9, xI_10, xI_11, xI_12, xI_13, xI_14, xI_15⟩ := at_T39 (Kd.C_below HW.out hs1) i PI.out.1 PI.out.2; obtain rfl : ad = adI := (by injection eI); obtain ⟨adJ, eJ, xJ_0, xJ_1, xJ_2, xJ_3, xJ_4, xJ_5, xJ_6, xJ_7, xJ_8, xJ_9, xJ_10, xJ_11, xJ_12, xJ_13, xJ_14, xJ_15⟩ := at_T39 (Kd.C_below HW.out hs1) j PJ.out.1 PJ.out.2; obtain rfl : ad = adJ := (by injection eJ); clear hs1; go_simp; with_reducible rfl); rotate_left; (· simp only [Act.put, List.setIfInBounds_toArray, List.set_cons_zero, List.set_cons_succ, i64_w, i32_w]; rfl)
                      refine pY 13 (some 78) (ar 31 14) HT_ (h := ?_)
                      refine pY 14 (some 79) (ar 31 15) HT_ (h := ?_)
                      refine pY 15 (some 80) (ar 31 16) HT_ (h := ?_)
                      refine take_ (i := 16) (N := (some 81)) (v := ?_) (a' := ?_) (ar 31 17) rfl rfl (take_ofW HT_.out HW_.out (by kernel_rfl)) (fun _ _ _ h => h) (Or.inl ⟨by rfl, ?_⟩) hHeld ?_ ?_; rotate_left; (· rintro w1 hs1; obtain ⟨adI, eI, xI_0, xI_1, xI_2, xI_3, xI_4, xI_5, xI_6, xI_7, xI_8, xI_9, xI_10, xI_11, xI_12, xI_13, xI_14, xI_15⟩ := at_T39 (Kd.C_below HW.out hs1) i PI.out.1 PI.out.2; obtain rfl : ad = adI := (by injection eI); obtain ⟨adJ, eJ, xJ_0, xJ_1, xJ_2, xJ_3, xJ_4, xJ_5, xJ_6, xJ_7, xJ_8, xJ_9, xJ_10, xJ_11, xJ_12, xJ_13, xJ_14, xJ_15⟩ := at_T39 (Kd.C_below HW.out hs1) j PJ.out.1 PJ.out.2; obtain rfl : ad = adJ := (by injection eJ); clear hs1; go_simp; with_reducible rfl); rotate_left; (· simp only [Act.put, List.setIfInBounds_toArray, List.set_cons_zero, List.set_cons_succ, i64_w, i32_w]; rfl)
                      refine pY 17 (some 82) (ar 31 18) HT_ (h := ?_)
                      refine pY 18 (some 83) (ar 31 19) HT_ (h := ?_)
                      refine pY 19 (some 84) (ar 31 20) HT_ (h := ?_)
                      refine sY 20 (some 85) (ar 31 21) HT_ (h := ?_)
                      refine sY 21 (some 86) (ar 31 22) HT_ (h := ?_)
                      refine sY 22 (some 87) (ar 31 23) HT_ (h := ?_)
                      refine sY 23 (some 88) (ar 31 24) HT_ (h := ?_)
                      refine sY 24 (some 89) (ar 31 25) HT_ (h := ?_)
                      refine sY 25 (some 90) (ar 31 26) HT_ (h := ?_)
                      refine sY 26 (some 91) (ar 31 27) HT_ (h := ?_)
                      refine sY 27 (some 92) (ar 31 28) HT_ (h := ?_)
                      refine sY 28 (some 93) (ar 31 29) HT_ (h := ?_)
                      refine pY 29 (some 94) (ar 31 30) HT_ (h := ?_)
                      refine pY 30 (some 95) (ar 31 31) HT_ (h := ?_)
                      refine done_ (done_of HT_.out (by kernel_rfl)) ?_
                      try go_wp2
                      go_meet
                      case rel => exact ⟨_, rfl, HBAD, HB⟩
                  · have hbad : bad3 l i j = decide ((rd_T39 l j).f1 ≥ (rd_T39 l i).f1) := by simp [bad3, ha, J.out.2.1, J.out.2.2, he]
                    have HBAD : RowKit.Hid (cutP l i (decide ((rd_T39 l j).f1 ≥ (rd_T39 l i).f1))) := Lib.hid ⟨fun h k hk => by rw [ONE.out k hk, hbad]; exact h, fun h => refF_bad3 PI.out.1 PI.out.2 J.out.1 J.out.2.1 (hbad.trans h)⟩
                    clear hbad
                    have he' : decide ((rd_T39 l j).f6 ≥ (rd_T39 l i).f5) = false := decide_eq_false he
                    clear ha ha' he
                    as_aux_lemma =>
                      refine start_ (n := 31) (S := fun w1 => Below wb.heap.size wb w1) (ds := []) (ar 31 0) (by kernel_rfl) rfl rfl (below_drew1 HB.out) (fun hHeld => ?_); refine with_tabW lchk.tab13 lchk.bits13 (fun HT_ HW_ => ?_)
                      replace HB := Lib.hid (below_drew1 HB.out)
                      generalize hwz : wb.drew = wz at HB hHeld ⊢
                      clear hwz
                      refine pY 0 (some 65) (ar 31 1) HT_ (h := ?_)
                      refine pY 1 (some 66) (ar 31 2) HT_ (h := ?_)
                      refine pY 2 (some 67) (ar 31 3) HT_ (h := ?_)
                      refine pY 3 (some 68) (ar 31 4) HT_ (h := ?_)
                      refine pY 4 (some 69) (ar 31 5) HT_ (h := ?_)
                      refine take_ (i := 5) (N := (some 70)) (v := ?_) (a' := ?_) (ar 31 6) rfl rfl (take_ofW HT_.out HW_.out (by kernel_rfl)) (fun _ _ _ h => h) (Or.inl ⟨by rfl, ?_⟩) hHeld ?_ ?_; rotate_left; (· rintro w1 hs1; obtain ⟨adI, eI, xI_0, xI_1, xI_2, xI_3, xI_4, xI_5, xI_6, xI_7, xI_8, xI_9, xI_10, xI_11, xI_12, xI_13, xI_14, xI_15⟩ := at_T39 (Kd.C_below HW.out hs1) i PI.out.1 PI.out.2; obtain rfl : ad = adI := (by injection eI); obtain ⟨adJ, eJ, xJ_0, xJ_1, xJ_2, xJ_3, xJ_4, xJ_5, xJ_6, xJ_7, xJ_8, xJ_9, xJ_10, xJ_11, xJ_12, xJ_13, xJ_14, xJ_15⟩ := at_T39 (Kd.C_below HW.out hs1) j PJ.out.1 PJ.out.2; obtain rfl : ad = adJ := (by injection eJ); clear hs1; go_simp; with_reducible rfl); rotate_left; (· simp only [Act.put, List.setIfInBounds_toArray, List.set_cons_zero, List.set_cons_succ, i64_w, i32_w]; rfl)
                      refine one_ (i := 6) (N := (some 71)) (ar 31 7) rfl rfl (one_of HT_.out (by kernel_rfl)) (by decide) (fun K hK => ?_); refine goes_ Try.func42 (by kernel_rfl) rfl #[.agg #[.int .i64 (rd_T39 l j).f0, .int .i64 (rd_T39 l j).f1, .bool (rd_T39 l j).f2, .string (rd_T39 l j).f3, .int .i64 (rd_T39 l j).f4.f0, .string (rd_T39 l j).f4.f1, .string (rd_T39 l j).f4.f2, .int .i64 (rd_T39 l j).f4.f3, .int .i64 (rd_T39 l j).f5, .int .i64 (rd_T39 l j).f6, .int .i64 (rd_T39 l j).f7.f0, .int .i64 (rd_T39 l j).f7.f1, .string (rd_T39 l j).f8.f0, .string (rd_T39 l j).f8.f1, .int .i64 (rd_T39 l j).f8.f2, .bool (rd_T39 l j).f9]] (by rfl) rfl rfl (by (try simp only [List.map_toArray, List.map_cons, List.map_nil]); first | done | rfl) ?_; with_reducible refine (HA.out _).mono ?_; rintro e w12 ⟨rfl, hb⟩; refine ⟨_, rfl, ?_⟩; replace HB := Lib.hid (below_step HB.out hb); clear hb; refine hK.out _ _ HB.out (fun hHeld => ?_); clear hK K; refine norm_ (a' := ?_) ?_ ?_; rotate_left; (· show Act.put _ (some 71) _ = _; simp only [Act.put, List.setIfInBounds_toArray, List.set_cons_zero, List.set_cons_succ, i64_w, i32_w]; rfl)
                      refine pY 7 (some 72) (ar 31 8) HT_ (h := ?_)
                      refine pY 8 (some 73) (ar 31 9) HT_ (h := ?_)
                      refine pY 9 (some 74) (ar 31 10) HT_ (h := ?_)
                      refine pY 10 (some 75) (ar 31 11) HT_ (h := ?_)
                      refine pY 11 (some 76) (ar 31 12) HT_ (h := ?_)
                      refine take_ (i := 12) (N := (some 77)) (v := ?_) (a' := ?_) (ar 31 13) rfl rfl (take_ofW HT_.out HW_.out (by kernel_rfl)) (fun _ _ _ h => h) (Or.inl ⟨by rfl, ?_⟩) hHeld ?_ ?_; rotate_left; (· rintro w1 hs1; obtain ⟨adI, eI, xI_0, xI_1, xI_2, xI_3, xI_4, xI_5, xI_6, xI_7, xI_8, xI_9, xI_10, xI_11, xI_12, xI_13, xI_14, xI_15⟩ := at_T39 (Kd.C_below HW.out hs1) i PI.out.1 PI.out.2; obtain rfl : ad = adI := (by injection eI); obtain ⟨adJ, eJ, xJ_0, xJ_1, xJ_2, xJ_3, xJ_4, xJ_5, xJ_6, xJ_7, xJ_8, xJ_9, xJ_10, xJ_11, xJ_12, xJ_13, xJ_14, xJ_15⟩ := at_T39 (Kd.C_below HW.out hs1) j PJ.out.1 PJ.out.2; obtain rfl : ad = adJ := (by injection eJ); clear hs1; go_simp; with_reducible rfl); rotate_left; (· simp only [Act.put, List.setIfInBounds_toArray, List.set_cons_zero, List.set_cons_succ, i64_w, i32_w]; rfl)
                      refine pY 13 (some 78) (ar 31 14) HT_ (h := ?_)
                      refine pY 14 (some 79) (ar 31 15) HT_ (h := ?_)
                      refine pY 15 (some 80) (ar 31 16) HT_ (h := ?_)
                      refine take_ (i := 16) (N := (some 81)) (v := ?_) (a' := ?_) (ar 31 17) rfl rfl (take_ofW HT_.out HW_.out (by kernel_rfl)) (fun _ _ _ h => h) (Or.inl ⟨by rfl, ?_⟩) hHeld ?_ ?_; rotate_left; (· rintro w1 hs1; obtain ⟨adI, eI, xI_0, xI_1, xI_2, xI_3, xI_4, xI_5, xI_6, xI_7, xI_8, xI_9, xI_10, xI_11, xI_12, xI_13, xI_14, xI_15⟩ := at_T39 (Kd.C_below HW.out hs1) i PI.out.1 PI.out.2; obtain rfl : ad = adI := (by injection eI); obtain ⟨adJ, eJ, xJ_0, xJ_1, xJ_2, xJ_3, xJ_4, xJ_5, xJ_6, xJ_7, xJ_8, xJ_9, xJ_10, xJ_11, xJ_12, xJ_13, xJ_14, xJ_15⟩ := at_T39 (Kd.C_below HW.out hs1) j PJ.out.1 PJ.out.2; obtain rfl : ad = adJ := (by injection eJ); clear hs1; go_simp; with_reducible rfl); rotate_left; (· simp only [Act.put, List.setIfInBounds_toArray, List.set_cons_zero, List.set_cons_succ, i64_w, i32_w]; rfl)
                      refine pY 17 (some 82) (ar 31 18) HT_ (h := ?_)
                      refine pY 18 (some 83) (ar 31 19) HT_ (h := ?_)
                      refine pY 19 (some 84) (ar 31 20) HT_ (h := ?_)
                      refine pY 20 (some 85) (ar 31 21) HT_ (h := ?_)
                      refine pY 21 (some 86) (ar 31 22) HT_ (h := ?_)
                      refine pY 22 (some 87) (ar 31 23) HT_ (h := ?_)
                      refine take_ (i := 23) (N := (some 88)) (v := ?_) (a' := ?_) (ar 31 24) rfl rfl (take_ofW HT_.out HW_.out (by kernel_rfl)) (fun _ _ _ h => h) (Or.inl ⟨by rfl, ?_⟩) hHeld ?_ ?_; rotate_left; (· rintro w1 hs1; obtain ⟨adI, eI, xI_0, xI_1, xI_2, xI_3, xI_4, xI_5, xI_6, xI_7, xI_8, xI_9, xI_10, xI_11, xI_12, xI_13, xI_14, xI_15⟩ := at_T39 (Kd.C_below HW.out hs1) i PI.out.1 PI.out.2; obtain rfl : ad = adI := (by injection eI); obtain ⟨adJ, eJ, xJ_0, xJ_1, xJ_2, xJ_3, xJ_4, xJ_5, xJ_6, xJ_7, xJ_8, xJ_9, xJ_10, xJ_11, xJ_12, xJ_13, xJ_14, xJ_15⟩ := at_T39 (Kd.C_below HW.out hs1) j PJ.out.1 PJ.out.2; obtain rfl : ad = adJ := (by injection eJ); clear hs1; go_simp; with_reducible rfl); rotate_left; (· simp only [Act.put, List.setIfInBounds_toArray, List.set_cons_zero, List.set_cons_succ, i64_w, i32_w]; rfl)
                      refine pY 24 (some 89) (ar 31 25) HT_ (h := ?_)
                      refine pY 25 (some 90) (ar 31 26) HT_ (h := ?_)
                      refine pY 26 (some 91) (ar 31 27) HT_ (h := ?_)
                      refine take_ (i := 27) (N := (some 92)) (v := ?_) (a' := ?_) (ar 31 28) rfl rfl (take_ofW HT_.out HW_.out (by kernel_rfl)) (fun _ _ _ h => h) (Or.inl ⟨by rfl, ?_⟩) hHeld ?_ ?_; rotate_left; (· rintro w1 hs1; obtain ⟨adI, eI, xI_0, xI_1, xI_2, xI_3, xI_4, xI_5, xI_6, xI_7, xI_8, xI_9, xI_10, xI_11, xI_12, xI_13, xI_14, xI_15⟩ := at_T39 (Kd.C_below HW.out hs1) i PI.out.1 PI.out.2; obtain rfl : ad = adI := (by injection eI); obtain ⟨adJ, eJ, xJ_0, xJ_1, xJ_2, xJ_3, xJ_4, xJ_5, xJ_6, xJ_7, xJ_8, xJ_9, xJ_10, xJ_11, xJ_12, xJ_13, xJ_14, xJ_15⟩ := at_T39 (Kd.C_below HW.out hs1) j PJ.out.1 PJ.out.2; obtain rfl : ad = adJ := (by injection eJ); clear hs1; go_simp; with_reducible rfl); rotate_left; (· simp only [Act.put, List.setIfInBounds_toArray, List.set_cons_zero, List.set_cons_succ, i64_w, i32_w]; rfl)
                      refine pY 28 (some 93) (ar 31 29) HT_ (h := ?_)
                      refine pY 29 (some 94) (ar 31 30) HT_ (h := ?_)
                      refine pY 30 (some 95) (ar 31 31) HT_ (h := ?_)
                      refine done_ (done_of HT_.out (by kernel_rfl)) ?_
                      try go_wp2
                      go_meet
                      case rel => exact ⟨_, rfl, HBAD, HB⟩
            case rest =>
              obtain ⟨b, rfl, HX, HB⟩ := hcut
              cases b with
              | true =>
                have HY := Lib.hid (HX.out.2 rfl)
                go_wp2
                go_ret
                exact ⟨ret_i HY.out.symm, (V3.out.below HB.out).2.2⟩
              | false =>
                have V4 := Lib.hid (V3.out.below HB.out)
                obtain ⟨adI, eI, xI_0, xI_1, xI_2, xI_3, xI_4, xI_5, xI_6, xI_7, xI_8, xI_9, xI_10, xI_11, xI_12, xI_13, xI_14, xI_15⟩ := at_T39 (Kd.C_below HR.out V4.out.2.2) i PI.out.1 PI.out.2
                obtain rfl : ad = adI := (by injection eI)
                clear eI
                have cL : wc.cell? ⟨bL, (rd_T39 l i).f0.toNat, none⟩ = some pv := (blk_cell V4.out.1 _).trans PV.out
                have fL : wc.frozen? ⟨bL, (rd_T39 l i).f0.toNat, none⟩ = false := blk_frozen V4.out.1 _
                have wi : wrap64 (i + 1) = i + 1 := by have h1 := PI.out; have h2 := HN.out; unfold wrap64; omega
                have wi2 : IntKind.i64.wrap (i + 1) = i + 1 := (i64_w _).trans wi
                go_wp2_with (fail)
                go_roundw
                case rel => exact ⟨i + 1, by first | rfl | go_num, ⟨by have := PI.out; omega, by have := PI.out; omega⟩, Lib.hid (okP_succ HO.out H1.out (HX.out.1 rfl)), Lib.hid ⟨_, last_step HL.out PI.out.1 HM.out.1 HM.out.2, by rw [show (i + 1).toNat = i.toNat + 1 by have := PI.out; omega, Nat.mul_add]; exact inv_set V4.out HNE.out.1 HNE.out.2 _ _⟩⟩
                case measure => have := PI.out; simp [intOf]; omega
    · have c1 : decide (i < (l.length : Int)) = false := decide_eq_false hlt
      have HE := Lib.hid (show i = (l.length : Int) by omega)
      obtain ⟨D, hD, hMI⟩ := HV.out.2.1
      have OD := Lib.hid hD
      have MI : RowKit.Hid (MapIs l D l.length) := Lib.hid (by have h := hMI; rw [HE.out] at h; exact h)
      have HOE : RowKit.Hid (okP l l.length) := Lib.hid (HE.out ▸ HO.out)
      clear hD hMI i0 i1 hlt
      go_wp2_with (first
        | (at_range; refine wpList_range_own _ rfl _ 100 rfl 3 3 law3 Try.underlying100 _ bM (2 * i.toNat) D rfl OD.out ?_; intro w0 hrg0 hg0 hs0; have RG := Lib.hid (And.intro hrg0 (And.intro hg0 hs0)); clear hrg0 hg0 hs0)
        | (fail))
      go_frame
      have B0 := Lib.hid (HV.out.2.2.trans ((below_of_none RG.out.2.1).mono HV.out.2.2.size))
      obtain ⟨r, hr⟩ : ∃ r, RowKit.Hid (r = wr.heap.size) := ⟨_, Lib.hid rfl⟩
      have hrw : RowKit.Hid (w.heap.size ≤ r) := Lib.hid (by rw [hr.out]; exact HV.out.2.2.size)
      have RR : RowKit.Hid (w0.ranges Try.prog 3 (plainElem Try.prog 3) bM r (2 * i.toNat) D (Maps.has D) (Maps.size D)) := Lib.hid (by rw [hr.out]; exact RG.out.1)
      rw [← hr.out]
      clear RG
      go_loopw [9] (fun _ wr => ∃ (left : Lit → Bool) (cnt : Nat), RowKit.Hid (wr.ranges Try.prog 3 (plainElem Try.prog 3) bM r (2 * i.toNat) D left cnt ∧ (∀ x, (Lit.int .i64 x).wf = true → left (.int .i64 x) = false → cntN l x l.length ≤ 1) ∧ Below w.heap.size w wr)) (fun _ wr => wr.rangeLeft bM r)
      case atStart => exact ⟨_, _, Lib.hid ⟨RR.out, fun x hx h => Nat.le_of_lt (by rw [cnt_none MI.out hx h]; omega), B0.out⟩⟩
      case round =>
        obtain ⟨left, cnt, HG⟩ := hrel
        go_wp2_with (first
          | (at_next; refine wpList_next_ranges_ii _ rfl _ rfl 3 3 .i64 .i64 law3 Try.underlying3 Try.underlying3 bM r (2 * i.toNat) _ _ _ rfl HG.out.1 ?_ ?_)
          | (fail))
        · intro hc0 hl0
          have HX := Lib.hid (refF_done HOE.out (cnt_all HWF.out (fun x hx => HG.out.2.1 x hx (hl0 _))))
          clear hl0 hc0
          go_wp2
          go_ret
          exact ⟨ret_i HX.out.symm, HG.out.2.2⟩
        · intro x q w1 cnt1 hwx hwq hlx hat hrg1 hlt1 hg1 hs1 hen
          have HQ : RowKit.Hid (q = ((cntN l x l.length : Nat) : Int)) := Lib.hid (by have h := MI.out x hwx; rw [hat] at h; injection h with h; injection h)
          have B1 := Lib.hid (HG.out.2.2.grown hg1 HG.out.2.2.size (fun j hj => by cases hj; exact hrw.out))
          have R1 := Lib.hid (And.intro hrg1 (And.intro hlt1 hwx))
          clear hwx hwq hlx hat hrg1 hlt1 hg1 hs1
          by_cases hq : q > 1
          · have hq' : decide (q > 1) = true := decide_eq_true hq
            have HX := Lib.hid (refF_dup (l := l) x (by have := HQ.out; omega))
            clear hq
            go_wp2
            go_ret
            exact ⟨ret_i HX.out.symm, B1.out⟩
          · have hq' : decide (q > 1) = false := decide_eq_false hq
            have HX := Lib.hid (show cntN l x l.length ≤ 1 by have := HQ.out; omega)
            clear hq
            go_wp2
            go_roundw
            case rel => exact ⟨_, cnt1, Lib.hid ⟨R1.out.1, fun y hy hl => by
              by_cases e : y = x
              · subst e; exact HX.out
              · refine HG.out.2.1 y hy ?_
                rw [Maps.sameKey_ne (a := .int .i64 y) (b := .int .i64 x) (fun h => e (by injection h)), Bool.not_false, Bool.and_true] at hl
                exact hl, B1.out⟩⟩
            case measure => rw [R1.out.1.left_eq, HG.out.1.left_eq]; exact R1.out.2.1
end Go.Proofs.Ytbakmkoppieelaa.PLinearChecks

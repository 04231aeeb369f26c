/- What is proved: a history's witness leaves one for what was known of it ahead of any row. -/
import Derived.Test.YtbakmkoppieelaaLSeaD
namespace Go.Proofs.Ytbakmkoppieelaa.PLinearChecks
open Go.RowKit Go.Proofs.YtbakmkoppieelaaW.PrintWords Go.Proofs.YtbakmkoppieelaaW.PrintLast Go.Proofs.YtbakmkoppieelaaW.PrintMore
set_option linter.unusedVariables false
set_option linter.unusedSimpArgs false
/-! #### what a longer history's witness tells of a shorter one's -/
def bigM : Int := 1152921504606846976
/-- The second state knows less than the first. -/
def Less (n : Nat) (c d : SC) : Prop :=
  (0 ≤ c.f3 ∧ c.f3 ≤ bigM ∧ 0 ≤ c.f4 ∧ c.f4 ≤ n) ∧ (0 ≤ d.f3 ∧ d.f3 ≤ bigM ∧ 0 ≤ d.f4 ∧ d.f4 ≤ n) ∧ c.f0 = d.f0 ∧ c.f1.toList = d.f1.toList ∧ d.f3 + d.f4 ≤ c.f3 + c.f4 ∧ (d.f2 > 0 → c.f2 = d.f2) ∧ (c.f2 > 0 → c.f3 = c.f2 ∧ c.f4 = 0)
theorem wrap_id {x : Int} (h0 : 0 ≤ x) (h1 : x ≤ 4611686018427387904) : wrap64 x = x := by unfold wrap64; omega
theorem Less.mono {n k : Nat} {c d : SC} (h : Less n c d) (hk : n ≤ k) : Less k c d := by
  obtain ⟨⟨a1, a2, a3, a4⟩, ⟨b1, b2, b3, b4⟩, h⟩ := h
  exact ⟨⟨a1, a2, a3, by omega⟩, ⟨b1, b2, b3, by omega⟩, h⟩
theorem set_less {n : Nat} (hn : n ≤ 1000000) {c d : SC} {v : Int} (hv : v ≤ bigM) (h : Less n c d) (hc : (setF c v).2 = true) : (setF d v).2 = true ∧ Less n (setF c v).1 (setF d v).1 := by
  have h0 := h
  obtain ⟨⟨a1, a2, a3, a4⟩, ⟨b1, b2, b3, b4⟩, e0, e1, hs, hd, hk⟩ := h
  unfold bigM at a2 b2 hv
  unfold setF at hc ⊢
  rw [wrap_id (by omega) (by omega)] at hc
  rw [wrap_id (x := c.f3 + c.f4) (by omega) (by omega), wrap_id (x := d.f3 + d.f4) (by omega) (by omega), ← e0]
  cases hf : c.f0 with
  | false =>
    rw [hf] at hc
    exact ⟨hc, h0⟩
  | true =>
    rw [hf] at hc
    simp only [Bool.true_eq_false, if_false] at hc ⊢
    by_cases p : c.f2 > 0
    · rw [if_pos p] at hc ⊢
      have hcv : c.f2 = v := by simpa using hc
      obtain ⟨k1, k2⟩ := hk p
      by_cases q : d.f2 > 0
      · rw [if_pos q]
        exact ⟨by simp [← hd q, hcv], h0⟩
      · rw [if_neg q, if_neg (by omega)]
        exact ⟨rfl, ⟨a1, by unfold bigM; omega, a3, a4⟩, ⟨by dsimp only; omega, by unfold bigM; dsimp only; omega, by dsimp only; omega, by dsimp only; omega⟩, hf, e1, by dsimp only; omega, fun _ => hcv, hk⟩
    · rw [if_neg p] at hc ⊢
      have q : ¬ d.f2 > 0 := fun q => p (by rw [hd q]; exact q)
      rw [if_neg q]
      by_cases hv2 : v < c.f3 + c.f4
      · rw [if_pos hv2] at hc
        cases hc
      · rw [if_neg hv2, if_neg (by omega)]
        exact ⟨rfl, ⟨by dsimp only; omega, by unfold bigM; dsimp only; omega, by dsimp only; omega, by dsimp only; omega⟩, ⟨by dsimp only; omega, by unfold bigM; dsimp only; omega, by dsimp only; omega, by dsimp only; omega⟩, rfl, e1, by dsimp only; omega, fun _ => rfl, fun _ => ⟨rfl, rfl⟩⟩
theorem set_drop {n : Nat} (hn : n ≤ 1000000) {c d : SC} {v : Int} (hv : v ≤ bigM) (h : Less n c d) (hc : (setF c v).2 = true) : Less n (setF c v).1 d := by
  have h0 := h
  obtain ⟨⟨a1, a2, a3, a4⟩, ⟨b1, b2, b3, b4⟩, e0, e1, hs, hd, hk⟩ := h
  unfold bigM at a2 b2 hv
  unfold setF at hc ⊢
  rw [wrap_id (by omega) (by omega)] at hc
  rw [wrap_id (x := c.f3 + c.f4) (by omega) (by omega)]
  cases hf : c.f0 with
  | false => exact h0
  | true =>
    rw [hf] at hc
    simp only [Bool.true_eq_false, if_false] at hc ⊢
    by_cases p : c.f2 > 0
    · rw [if_pos p]
      exact h0
    · rw [if_neg p] at hc ⊢
      have q : ¬ d.f2 > 0 := fun q => p (by rw [hd q]; exact q)
      by_cases hv2 : v < c.f3 + c.f4
      · rw [if_pos hv2] at hc
        cases hc
      · rw [if_neg hv2]
        exact ⟨⟨by dsimp only; omega, by unfold bigM; dsimp only; omega, by dsimp only; omega, by dsimp only; omega⟩, ⟨b1, by unfold bigM; omega, b3, b4⟩, by rw [← e0, hf], e1, by dsimp only; omega, fun q' => absurd q' q, fun _ => ⟨rfl, rfl⟩⟩
/-- An effect: the second's number is the first's, or not known. -/
theorem eff_less {n : Nat} (hn : n ≤ 1000000) {c d : SC} {t : Bool} {va : ByteArray} {x y : Int} (hx : 0 ≤ x ∧ x ≤ bigM) (hy : y = x ∨ y = 0) (h : Less n c d) (hc : (effF c t va x).2 = true) : (effF d t va y).2 = true ∧ Less (n + 1) (effF c t va x).1 (effF d t va y).1 := by
  obtain ⟨⟨a1, a2, a3, a4⟩, ⟨b1, b2, b3, b4⟩, e0, e1, hs, hd, hk⟩ := h
  unfold bigM at a2 b2 hx
  unfold effF at hc ⊢
  rw [wrap_id (x := c.f3 + c.f4) (by omega) (by omega), wrap_id (x := c.f3 + c.f4 + 1) (by omega) (by omega), wrap_id (x := c.f4 + 1) (by omega) (by omega)] at hc ⊢
  rw [wrap_id (x := d.f3 + d.f4) (by omega) (by omega), wrap_id (x := d.f3 + d.f4 + 1) (by omega) (by omega), wrap_id (x := d.f4 + 1) (by omega) (by omega)]
  by_cases p : x = 0
  · have q : y = 0 := by omega
    rw [if_pos p, if_pos q]
    exact ⟨rfl, ⟨a1, a2, by dsimp only; omega, by dsimp only; omega⟩, ⟨b1, b2, by dsimp only; omega, by dsimp only; omega⟩, rfl, rfl, by dsimp only; omega, fun _ => rfl, fun q' => absurd q' (by simp)⟩
  · rw [if_neg p] at hc ⊢
    by_cases p2 : x < c.f3 + c.f4 + 1
    · rw [if_pos p2] at hc
      cases hc
    · rw [if_neg p2]
      by_cases q : y = 0
      · rw [if_pos q]
        exact ⟨rfl, ⟨by dsimp only; omega, by unfold bigM; dsimp only; omega, by dsimp only; omega, by dsimp only; omega⟩, ⟨b1, b2, by dsimp only; omega, by dsimp only; omega⟩, rfl, rfl, by dsimp only; omega, fun q' => absurd q' (by simp), fun _ => ⟨rfl, rfl⟩⟩
      · have q1 : y = x := by omega
        subst q1
        rw [if_neg q, if_neg (by omega)]
        exact ⟨rfl, ⟨by dsimp only; omega, by unfold bigM; dsimp only; omega, by dsimp only; omega, by dsimp only; omega⟩, ⟨by dsimp only; omega, by unfold bigM; dsimp only; omega, by dsimp only; omega, by dsimp only; omega⟩, rfl, rfl, by dsimp only; omega, fun _ => rfl, fun _ => ⟨rfl, rfl⟩⟩
theorem do_less {n : Nat} (hn : n ≤ 1000000) {c d : SC} {x y : S39} {a b : Int} (e0 : y.f4 = x.f4) (hv : x.f4.f3 ≤ bigM) (hx : 0 ≤ a ∧ a ≤ bigM) (hy : b = a ∨ b = 0) (h : Less n c d) (hc : (doF c x a).2 = true) : (doF d y b).2 = true ∧ Less (n + 1) (doF c x a).1 (doF d y b).1 := by
  unfold doF at hc ⊢
  rw [e0]
  split at hc
  · rename_i h2
    rw [if_pos h2, if_pos h2, ← h.2.2.1]
    split at hc
    · cases hc
    · rename_i h3
      rw [if_neg h3]
      have := eff_less hn hx hy h hc
      simpa [h3] using this
  · rename_i h2
    rw [if_neg h2, if_neg h2]
    split at hc
    · rename_i h3
      rw [if_pos h3, if_pos h3]
      split at hc
      · rename_i h4
        obtain ⟨h5, h6⟩ := set_less hn hv h h4
        rw [if_pos h4, if_pos h5]
        exact eff_less hn hx hy h6 hc
      · cases hc
    · rename_i h3
      rw [if_neg h3, if_neg h3]
      exact eff_less hn hx hy h hc
theorem wi_of {a lo hi : Int} (h : wiB a lo hi = true) : lo ≤ a ∧ a ≤ hi := by
  unfold wiB at h
  split at h
  · exact ⟨by omega, of_decide_eq_true h⟩
  · cases h
theorem may_update {x : S39} (h : mayB x = true) (hr : x.f2 = false) : (0 ≤ x.f4.f3 ∧ x.f4.f3 ≤ bigM) ∧ (ansB x = true → (x.f7.f0 = 1 ∧ 1 ≤ x.f7.f1 ∧ x.f7.f1 ≤ bigM) ∨ x.f7.f0 = 2 ∨ (x.f7.f0 = 3 ∧ 0 ≤ x.f7.f1 ∧ x.f7.f1 ≤ bigM) ∨ x.f7.f0 = 4) ∧ (ansB x = false → x.f7.f1 = 0 ∧ x.f7.f0 = 0) := by
  unfold mayB mayB16 updB opB at h
  rw [hr] at h
  simp only [Bool.and_eq_true, Bool.false_eq_true, if_false] at h
  obtain ⟨-, -, -, -, ⟨-, h3, -⟩, -, -, -, h5⟩ := h
  refine ⟨wi_of h3, fun ha => ?_, fun ha => ?_⟩
  · unfold ansB at ha
    rw [if_pos ha] at h5
    unfold resB at h5
    split at h5
    · rename_i e
      exact Or.inl ⟨e, wi_of h5⟩
    · split at h5
      · rename_i e
        exact Or.inr (Or.inl e)
      · split at h5
        · rename_i e
          simp only [Bool.and_eq_true] at h5
          exact Or.inr (Or.inr (Or.inl ⟨e, wi_of h5.1.2⟩))
        · split at h5
          · rename_i e
            exact Or.inr (Or.inr (Or.inr e))
          · cases h5
  · unfold ansB at ha
    rw [if_neg (by simp [ha])] at h5
    unfold resZ at h5
    simp at h5
    exact ⟨h5.2, h5.1⟩
theorem may_read {x : S39} (h : mayB x = true) (hr : x.f2 = true) (hf : x.f9 = true) : 1 ≤ x.f8.f2 ∧ x.f8.f2 ≤ bigM := by
  unfold mayB mayB16 readB at h
  rw [hr, hf] at h
  simp only [Bool.and_eq_true, if_true] at h
  exact wi_of h.2.2.2.2.2.2.2.2.2.2
theorem hap_same {n : Nat} (hn : n ≤ 1000000) {c d : SC} {x : S39} (hm : mayB x = true) (h : Less n c d) (hc : (hapF c x).2 = true) : (hapF d x).2 = true ∧ Less (n + 1) (hapF c x).1 (hapF d x).1 := by
  have h1 := h.mono (Nat.le_succ n)
  unfold hapF at hc ⊢
  cases hr : x.f2 with
  | true =>
    rw [hr] at hc
    simp only [if_true] at hc ⊢
    cases hf : x.f9 with
    | false =>
      rw [hf] at hc
      simp only [if_true] at hc ⊢
      exact ⟨by rw [← h.2.2.1]; exact hc, h1⟩
    | true =>
      rw [hf] at hc
      simp only [Bool.true_eq_false, if_false] at hc ⊢
      split at hc
      · cases hc
      · rename_i h2
        rw [if_neg h2, if_neg (by rw [← h.2.2.1]; exact h2)]
        split at hc
        · rename_i h3
          rw [if_pos h3, if_pos (by rw [← h.2.2.2.1]; exact h3)]
          obtain ⟨h4, h5⟩ := set_less hn (may_read hm hr hf).2 h hc
          exact ⟨h4, h5.mono (Nat.le_succ n)⟩
        · cases hc
  | false =>
    rw [hr] at hc
    simp only [Bool.false_eq_true, if_false] at hc ⊢
    obtain ⟨m1, m2, m3⟩ := may_update hm hr
    cases ha : ansB x with
    | true =>
      rw [ha] at hc
      simp only [if_true] at hc ⊢
      split at hc
      · rename_i e
        rw [if_pos e, if_pos e]
        exact ⟨by rw [← h.2.2.1]; exact hc, h1⟩
      · rename_i e
        rw [if_neg e, if_neg e]
        split at hc
        · rename_i e2
          rw [if_pos e2, if_pos e2]
          exact ⟨by rw [← h.2.2.1]; exact hc, h1⟩
        · rename_i e2
          rw [if_neg e2, if_neg e2]
          split at hc
          · rename_i e3
            rw [if_pos e3, if_pos e3]
            obtain ⟨h4, h5⟩ := set_less hn (by rcases m2 ha with q | q | q | q <;> omega) h hc
            exact ⟨h4, h5.mono (Nat.le_succ n)⟩
          · rename_i e3
            rw [if_neg e3, if_neg e3]
            exact do_less hn rfl m1.2 (by rcases m2 ha with q | q | q | q <;> omega) (Or.inl rfl) h hc
    | false =>
      rw [ha] at hc
      simp only [Bool.false_eq_true, if_false] at hc ⊢
      exact do_less hn rfl m1.2 ⟨Int.le_refl 0, by decide⟩ (Or.inl rfl) h hc
/-- An update whose answer is taken away. -/
theorem hap_cut {n : Nat} (hn : n ≤ 1000000) {c d : SC} {x y : S39} (hm : mayB x = true) (hr : x.f2 = false) (ha : ansB x = true) (h1 : x.f7.f0 = 1) (hy : y.f2 = false) (hb : ansB y = false) (e : y.f4 = x.f4) (h : Less n c d) (hc : (hapF c x).2 = true) : (hapF d y).2 = true ∧ Less (n + 1) (hapF c x).1 (hapF d y).1 := by
  obtain ⟨m1, m2, m3⟩ := may_update hm hr
  unfold hapF at hc ⊢
  rw [hr, ha, h1] at hc ⊢
  rw [hy, hb]
  simp only [Bool.false_eq_true, if_false, if_true, show ¬ (1 : Int) = 4 by decide, show ¬ (1 : Int) = 2 by decide, show ¬ (1 : Int) = 3 by decide] at hc ⊢
  exact do_less hn e m1.2 (by rcases m2 ha with q | q | q | q <;> omega) (Or.inr rfl) h hc
/-- A call that is left out. -/
theorem hap_drop {n : Nat} (hn : n ≤ 1000000) {c d : SC} {x : S39} (hm : mayB x = true) (hx : x.f2 = true ∨ (ansB x = true ∧ x.f7.f0 ≠ 1)) (h : Less n c d) (hc : (hapF c x).2 = true) : Less n (hapF c x).1 d := by
  unfold hapF at hc ⊢
  cases hr : x.f2 with
  | true =>
    rw [hr] at hc
    simp only [if_true] at hc ⊢
    cases hf : x.f9 with
    | false =>
      simp only [if_true]
      exact h
    | true =>
      rw [hf] at hc
      simp only [Bool.true_eq_false, if_false] at hc ⊢
      split at hc
      · cases hc
      · rename_i h2
        rw [if_neg h2]
        split at hc
        · rename_i h3
          rw [if_pos h3]
          exact set_drop hn (may_read hm hr hf).2 h hc
        · cases hc
  | false =>
    rw [hr] at hc
    rcases hx with hx | ⟨ha, h1⟩
    · rw [hr] at hx; cases hx
    rw [ha] at hc ⊢
    simp only [Bool.false_eq_true, if_false, if_true] at hc ⊢
    obtain ⟨m1, m2, m3⟩ := may_update hm hr
    split at hc
    · rename_i e
      rw [if_pos e]
      exact h
    · rename_i e
      rw [if_neg e]
      split at hc
      · rename_i e2
        rw [if_pos e2]
        exact h
      · rename_i e2
        rw [if_neg e2]
        split at hc
        · rename_i e3
          rw [if_pos e3]
          exact set_drop hn (by rcases m2 ha with q | q | q | q <;> omega) h hc
        · rcases m2 ha with q | q | q | q <;> omega
/-- How a cut history stands to the whole one. -/
def CutOf (row : Int) (l k : List S39) : Prop := k.length ≤ l.length ∧ (∀ i, i < k.length → cl k i = cutC row (cl l i)) ∧ ∀ i, i < l.length → (cl l i).f5 < row → i < k.length
theorem cutC_same {row : Int} {c : S39} (h : ¬ c.f6 ≥ row) : cutC row c = c := if_neg h
theorem cutC_f (row : Int) (c : S39) : (cutC row c).f2 = c.f2 ∧ (cutC row c).f3 = c.f3 ∧ (cutC row c).f4 = c.f4 ∧ (cutC row c).f5 = c.f5 := by
  unfold cutC
  split <;> exact ⟨rfl, rfl, rfl, rfl⟩
theorem cutC_ans {row : Int} (hr : 0 ≤ row) {c : S39} : ansB (cutC row c) = true ↔ ansB c = true ∧ c.f6 < row := by
  unfold cutC ansB
  split
  · simp
    intro; omega
  · simp
    intro; omega
theorem cutC_noans {row : Int} {c : S39} (h : c.f6 ≥ row) : ansB (cutC row c) = false := by
  unfold cutC ansB
  rw [if_pos h]
  rfl
theorem prec_cut {row : Int} (hr : 0 ≤ row) {c d : S39} (h : precB (cutC row c) (cutC row d) = true) : precB c d = true ∧ ansB (cutC row c) = true := by
  have h2 : ansB (cutC row c) = true := by
    unfold precB at h
    unfold ansB
    rw [Bool.and_eq_true] at h
    exact h.1
  have h3 := (cutC_ans hr).mp h2
  refine ⟨?_, h2⟩
  unfold precB at h ⊢
  rw [(cutC_f row d).2.2.2, cutC_same (by omega)] at h
  exact h
theorem sofar {l k : List S39} {row : Int} (hr : 0 ≤ row) (hm : ∀ i, i < l.length → mayB (cl l i) = true) (hk : CutOf row l k) : ∀ (t o p : List Nat) (m q : KF) (n : Nat), n + t.length ≤ 1000000 → (∀ x, x ∈ p → x ∈ o) → (∀ x, x ∈ o → x < k.length → ansB (cl k x) = true → x ∈ p) → (∀ s, Less n (m s) (q s)) → Wit l o m t → ∃ u, u.length ≤ t.length ∧ Wit k p q u := by
  intro t
  obtain ⟨k1, k2, k3⟩ := hk
  induction t with
  | nil =>
    intro o p m q n hn hp ho hl hw
    refine ⟨[], Nat.le_refl _, ?_⟩
    have hw : whlB l o = true := hw
    show whlB k p = true
    rw [whlB_iff] at hw ⊢
    intro x hx ha
    have h2 := ha
    rw [k2 x hx] at ha
    exact ho x (hw x (by omega) ((cutC_ans hr).mp ha).1) hx h2
  | cons i t ih =>
    intro o p m q n hn hp ho hl hw
    obtain ⟨h1, h2, h3, h4⟩ := hw
    rw [List.length_cons] at hn
    by_cases hwk : whlB k p = true
    · exact ⟨[], by simp, hwk⟩
    obtain ⟨z, hz, hza, hzp⟩ : ∃ z, z < k.length ∧ ansB (cl k z) = true ∧ z ∉ p := by
      rw [whlB_iff] at hwk
      false_or_by_contra
      rename_i hh
      exact hwk (fun x hx ha => by
        false_or_by_contra
        rename_i h9
        exact hh ⟨x, hx, ha, h9⟩)
    obtain ⟨n1, n2, n3⟩ := nxtB_iff.mp h2
    have hzo : z ∉ o := fun hh => hzp (ho z hh hz hza)
    have hzl := hza
    rw [k2 z hz] at hzl
    have hzl := (cutC_ans hr).mp hzl
    have hik : i < k.length := by
      refine k3 i h1 ?_
      rcases rdyB_iff.mp n3 z (by omega) with e | e
      · exact absurd e hzo
      · unfold precB at e
        have h7 : ((cl l z).f6 != -1) = true := hzl.1
        rw [h7] at e
        simp at e
        omega
    have hap := hm i h1
    have hes := k2 i hik
    have hky : kyF k i = kyF l i := by unfold kyF; rw [hes, (cutC_f row _).2.1]
    by_cases hkeep : (cl l i).f6 < row ∨ ((cl l i).f2 = false ∧ (cl l i).f7.f0 = 1)
    · -- the call stays
      have hst : (hapF (q (kyF l i)) (cl k i)).2 = true ∧ Less (n + 1) (hapF (m (kyF l i)) (cl l i)).1 (hapF (q (kyF l i)) (cl k i)).1 := by
        by_cases hlt : (cl l i).f6 < row
        · rw [hes, cutC_same (by omega)]
          exact hap_same (by omega) hap (hl _) h3
        · rcases hkeep with e | ⟨e1, e2⟩
          · exact absurd e hlt
          · have ha : ansB (cl l i) = true := by
              unfold ansB
              simp
              omega
            exact hap_cut (by omega) hap e1 ha e2 (by rw [hes, (cutC_f row _).1]; exact e1) (by rw [hes]; exact cutC_noans (by omega)) (by rw [hes, (cutC_f row _).2.2.1]) (hl _) h3
      obtain ⟨u, hu, hwu⟩ := ih (o ++ [i]) (p ++ [i]) (updK m (kyF l i) (hapF (m (kyF l i)) (cl l i)).1) (updK q (kyF l i) (hapF (q (kyF l i)) (cl k i)).1) (n + 1) (by omega)
        (fun x hx => by
          rcases List.mem_append.mp hx with e | e
          · exact List.mem_append.mpr (Or.inl (hp x e))
          · exact List.mem_append.mpr (Or.inr e))
        (fun x hx hxk hxa => by
          rcases List.mem_append.mp hx with e | e
          · exact List.mem_append.mpr (Or.inl (ho x e hxk hxa))
          · exact List.mem_append.mpr (Or.inr e))
        (fun s => by
          unfold updK
          split
          · exact hst.2
          · exact (hl s).mono (Nat.le_succ n)) h4
      refine ⟨i :: u, by simp; omega, hik, ?_, by rw [hky]; exact hst.1, by rw [hky]; exact hwu⟩
      refine nxtB_iff.mpr ⟨fun hh => n1 (hp i hh), ?_, rdyB_iff.mpr ?_⟩
      · intro hrd
        rw [hes, (cutC_f row _).1] at hrd
        rw [hes]
        refine (cutC_ans hr).mpr ⟨n2 hrd, ?_⟩
        rcases hkeep with e | ⟨e1, e2⟩
        · exact e
        · rw [hrd] at e1; cases e1
      · intro x hx
        cases hpr : precB (cl k x) (cl k i) with
        | false => exact Or.inr rfl
        | true =>
          rw [hes, k2 x hx] at hpr
          obtain ⟨p1, p2⟩ := prec_cut hr hpr
          rcases rdyB_iff.mp n3 x (by omega) with e | e
          · exact Or.inl (ho x e hx (by rw [k2 x hx]; exact p2))
          · rw [p1] at e; cases e
    · -- the call is left out
      have hge : (cl l i).f6 ≥ row := by
        false_or_by_contra
        exact hkeep (Or.inl (by omega))
      have ha : ansB (cl l i) = true := by
        unfold ansB
        simp
        omega
      obtain ⟨u, hu, hwu⟩ := ih (o ++ [i]) p (updK m (kyF l i) (hapF (m (kyF l i)) (cl l i)).1) q n (by omega)
        (fun x hx => List.mem_append.mpr (Or.inl (hp x hx)))
        (fun x hx hxk hxa => by
          rcases List.mem_append.mp hx with e | e
          · exact ho x e hxk hxa
          · have e := List.mem_singleton.mp e
            subst e
            rw [hes, cutC_noans hge] at hxa
            cases hxa)
        (fun s => by
          unfold updK
          split
          · rename_i e
            subst e
            refine hap_drop (by omega) hap ?_ (hl _) h3
            cases hrd : (cl l i).f2 with
            | true => exact Or.inl rfl
            | false => exact Or.inr ⟨ha, fun e => hkeep (Or.inr ⟨hrd, e⟩)⟩
          · exact hl s) h4
      exact ⟨u, by simp; omega, hwu⟩
theorem cutT_at (row : Int) (l : List S39) : ∀ i, i < (cutT row l).length → cl (cutT row l) i = cutC row (cl l i) := by
  induction l with
  | nil => intro i h; simp [cutT] at h
  | cons c t ih =>
    intro i h
    rw [cutT] at h ⊢
    split at h
    · simp at h
    · rename_i e
      rw [if_neg e]
      cases i with
      | zero => rfl
      | succ i => exact ih i (by simpa using h)
theorem cutT_far (row : Int) (l : List S39) (hl : ∀ i k, i < k → k < l.length → (cl l i).f5 < (cl l k).f5) : ∀ i, i < l.length → (cl l i).f5 < row → i < (cutT row l).length := by
  induction l with
  | nil => intro i h; simp at h
  | cons c t ih =>
    intro i h hr
    have hc : ¬ c.f5 ≥ row := by
      cases i with
      | zero =>
        have h9 : c.f5 < row := hr
        omega
      | succ i =>
        have h9 : c.f5 < (cl (c :: t) (i + 1)).f5 := hl 0 (i + 1) (by omega) h
        omega
    rw [cutT, if_neg hc]
    cases i with
    | zero => simp
    | succ i =>
      have := ih (fun a b h1 h2 => hl (a + 1) (b + 1) (by omega) (by simpa using h2)) i (by simpa using h) hr
      simpa using this
theorem cutT_le (row : Int) (l : List S39) : (cutT row l).length ≤ l.length := by
  induction l with
  | nil => exact Nat.le_refl _
  | cons c t ih =>
    rw [cutT]
    split
    · exact Nat.zero_le _
    · exact Nat.succ_le_succ ih
theorem ok_lt {l : List S39} (h : okTo l l.length) : ∀ i k, i < k → k < l.length → (cl l i).f5 < (cl l k).f5 := by
  intro i k hik
  induction k with
  | zero => omega
  | succ k ih =>
    intro hk
    have h1 := (h ((k + 1 : Nat) : Int) (by omega) (by omega)).1
    unfold bad1 at h1
    simp only [Bool.or_eq_false_iff, Bool.and_eq_false_iff, decide_eq_false_iff_not] at h1
    have h2 : (cl l k).f5 < (cl l (k + 1)).f5 := by
      have e : rd_T39 l (((k + 1 : Nat) : Int) - 1) = cl l k := by rw [rd_cl', show (((k + 1 : Nat) : Int) - 1).toNat = k by omega]
      rw [e, rd_cl] at h1
      rcases h1.2 with q | q <;> omega
    by_cases e : i = k
    · subst e; exact h2
    · have := ih (by omega) (by omega)
      omega
theorem ok_may {l : List S39} (h : okTo l l.length) : ∀ i, i < l.length → mayB (cl l i) = true := by
  intro i hi
  have h1 := (h (i : Int) (by omega) (by omega)).1
  unfold bad1 at h1
  rw [rd_cl] at h1
  simp only [Bool.or_eq_false_iff] at h1
  simpa using h1.1
theorem cutT_of {l : List S39} (h : okTo l l.length) (row : Int) : CutOf row l (cutT row l) := ⟨cutT_le row l, cutT_at row l, cutT_far row l (ok_lt h)⟩
theorem e0_list : (⟨#[]⟩ : ByteArray).toList = ([] : List UInt8) := by rw [ByteArray.toList, ByteArray.toList.loop]; rfl
theorem may_cut {row : Int} {c : S39} (h : mayB c = true) : mayB (cutC row c) = true := by
  unfold cutC
  split
  · unfold mayB mayB16 at h ⊢
    simp only [Bool.and_eq_true] at h ⊢
    obtain ⟨h1, h2, h3, h4, h5⟩ := h
    refine ⟨h1, h2, h3, by simp, ?_⟩
    cases hr : c.f2 with
    | true =>
      rw [hr] at h5
      simp only [if_true] at h5 ⊢
      unfold readB at h5 ⊢
      simp only [Bool.and_eq_true] at h5 ⊢
      refine ⟨h5.1, h5.2.1, rfl, ?_⟩
      simp [rowZ, e0_list]
    | false =>
      rw [hr] at h5
      simp only [Bool.false_eq_true, if_false] at h5 ⊢
      unfold updB at h5 ⊢
      simp only [Bool.and_eq_true] at h5 ⊢
      refine ⟨h5.1, h5.2.1, rfl, ?_, ?_⟩
      · simp [rowZ, e0_list]
      · simp [resZ]
  · exact h
theorem ok_cut {l : List S39} (h : okTo l l.length) {row : Int} (hr : 0 ≤ row) : okTo (cutT row l) (cutT row l).length := by
  obtain ⟨c1, c2, c3⟩ := cutT_of h row
  have hcl : ∀ i, i < (cutT row l).length → (cl l i).f5 < row := by
    clear c3 c2 c1 h
    induction l with
    | nil => intro i hi; simp [cutT] at hi
    | cons c t ih =>
      intro i hi
      rw [cutT] at hi
      split at hi
      · simp at hi
      · rename_i e
        cases i with
        | zero =>
          show c.f5 < row
          omega
        | succ i => exact ih i (by simpa using hi)
  intro i i0 i1
  obtain ⟨i, rfl⟩ : ∃ n : Nat, i = n := ⟨i.toNat, by omega⟩
  have hi : i < (cutT row l).length := by omega
  obtain ⟨g1, g2⟩ := h (i : Int) (by omega) (by omega)
  have F := cutC_f row
  refine ⟨?_, fun k k0 k1 => ?_⟩
  · unfold bad1
    simp only [Bool.or_eq_false_iff, Bool.and_eq_false_iff, decide_eq_false_iff_not]
    refine ⟨?_, ?_⟩
    · rw [rd_cl, c2 i hi, may_cut (ok_may h i (by omega))]; rfl
    · by_cases e : (i : Int) > 0
      · refine Or.inr ?_
        have e2 : rd_T39 (cutT row l) ((i : Int) - 1) = cl (cutT row l) (i - 1) := by rw [rd_cl', show ((i : Int) - 1).toNat = i - 1 by omega]
        rw [e2, rd_cl, c2 i hi, c2 (i - 1) (by omega), (F _).2.2.2, (F _).2.2.2]
        have := ok_lt h (i - 1) i (by omega) (by omega)
        omega
      · exact Or.inl e
  · obtain ⟨k, rfl⟩ : ∃ n : Nat, k = n := ⟨k.toNat, by omega⟩
    have hk : k < (cutT row l).length := by omega
    obtain ⟨b2, b3⟩ := g2 (k : Int) (by omega) (by omega)
    unfold bad2 bad3 at *
    rw [rd_cl, rd_cl] at b2 b3
    rw [rd_cl, rd_cl, c2 i hi, c2 k hk]
    have hb := hcl i hi
    constructor
    · by_cases hki : ((k : Int) != (i : Int) && ansB (cutC row (cl l i))) = true
      · rw [hki]
        rw [Bool.and_eq_true] at hki
        obtain ⟨a1, a2⟩ := (cutC_ans hr).mp hki.2
        rw [hki.1, a1] at b2
        simp only [Bool.true_and, Bool.or_eq_false_iff, beq_eq_false_iff_ne] at b2 ⊢
        rw [cutC_same (c := cl l i) (by omega)]
        refine ⟨by rw [(F _).2.2.2]; exact b2.1, ?_⟩
        unfold cutC
        split
        · have : (cl l i).f6 ≠ -1 := by simpa [ansB] using a1
          exact this
        · exact b2.2
      · rw [Bool.not_eq_true] at hki
        rw [hki]; rfl
    · by_cases hki : (decide ((k : Int) < (i : Int)) && (cutC row (cl l k)).f0 == (cutC row (cl l i)).f0) = true
      · rw [hki]
        have f0 : ∀ c, (cutC row c).f0 = c.f0 := fun c => by unfold cutC; split <;> rfl
        have f1 : ∀ c, (cutC row c).f1 = c.f1 := fun c => by unfold cutC; split <;> rfl
        rw [f0, f0] at hki
        rw [hki] at b3
        rw [f1, f1, (F _).2.2.2]
        simp only [Bool.true_and, Bool.or_eq_false_iff, Bool.not_eq_false', decide_eq_false_iff_not] at b3 ⊢
        have hlt : (cl l k).f6 < row := by omega
        refine ⟨⟨(cutC_ans hr).mpr ⟨b3.1.1, hlt⟩, ?_⟩, b3.2⟩
        rw [cutC_same (by omega)]
        exact b3.1.2
      · rw [Bool.not_eq_true] at hki
        rw [hki]; rfl
/-- A history's witness leaves one for what was known of it. -/
theorem sofar_go {l : List S39} (h : okTo l l.length) {row : Int} (hr : 0 ≤ row) (hl : l.length ≤ 1000) {a b : Nat} (ha : a ≤ 1000) (hb : a ≤ b) (hg : (goF l a [] zK).isSome = true) : (goF (cutT row l) b [] zK).isSome = true := by
  obtain ⟨r, hr2⟩ := Option.isSome_iff_exists.mp hg
  obtain ⟨t, -, ht, hw⟩ := go_wit l a [] zK r hr2
  obtain ⟨u, hu, hwu⟩ := sofar hr (ok_may h) (cutT_of h row) t [] [] zK zK 0 (by omega) (fun _ hx => hx) (fun _ hx => by cases hx) (fun s => by
    refine ⟨⟨?_, ?_, ?_, ?_⟩, ⟨?_, ?_, ?_, ?_⟩, rfl, rfl, ?_, fun _ => rfl, ?_⟩ <;> simp [zK, zC, bigM]) hw
  exact go_find (cutT row l) u b [] zK (by omega) hwu
end Go.Proofs.Ytbakmkoppieelaa.PLinearChecks

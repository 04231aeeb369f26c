/- What is proved: the runs of some numbers: laid together one by one in rising order, or gone over from 0 on, they are the same; the conditions stand in the theorems. -/
import Derived.Test.YtjjdjanhghahbaaDoorProg
namespace Go.Proofs.YtjjdjanhghahbaaDoor.Runs
set_option linter.unusedVariables false
set_option linter.unusedSimpArgs false
def stepN (out : List (Nat × Nat)) (c : Nat) : List (Nat × Nat) :=
  match out.getLast? with
  | none => [(c, c + 1)]
  | some x => if x.2 < c then out ++ [(c, c + 1)] else out.dropLast ++ [(x.1, max x.2 (c + 1))]
theorem stepN_nil (c : Nat) : stepN [] c = [(c, c + 1)] := rfl
theorem stepN_snoc (o : List (Nat × Nat)) (s e c : Nat) : stepN (o ++ [(s, e)]) c = if e < c then o ++ [(s, e)] ++ [(c, c + 1)] else o ++ [(s, max e (c + 1))] := by
  unfold stepN; simp
/-- What the reference does at b: the last one grown, or a new one. -/
def grow (out : List (Nat × Nat)) (B : Nat) : List (Nat × Nat) :=
  match out.getLast? with
  | none => []
  | some x => out.dropLast ++ [(x.1, B + 1)]
theorem grow_snoc (o : List (Nat × Nat)) (s e B : Nat) : grow (o ++ [(s, e)]) B = o ++ [(s, B + 1)] := by
  unfold grow; simp
def refN (S : Nat → Bool) : Nat → List (Nat × Nat)
  | 0 => []
  | B + 1 => if S B = true then (if 0 < B ∧ S (B - 1) = true then grow (refN S B) B else refN S B ++ [(B, B + 1)]) else refN S B
theorem refN_ext (S : Nat → Bool) (B : Nat) : ∀ m, (∀ b, B ≤ b → b < B + m → S b = false) → refN S (B + m) = refN S B
  | 0, _ => rfl
  | m + 1, h => by
    rw [← Nat.add_assoc, refN, if_neg (by rw [h (B + m) (by omega) (by omega)]; simp)]
    exact refN_ext S B m (fun b h1 h2 => h b h1 (by omega))
theorem refN_congr (S S' : Nat → Bool) : ∀ B, (∀ b, b < B → S b = S' b) → refN S B = refN S' B
  | 0, _ => rfl
  | B + 1, h => by
    have ih := refN_congr S S' B (fun b hb => h b (by omega))
    have h0 := h B (by omega)
    by_cases hb : 0 < B
    · have h1 := h (B - 1) (by omega)
      simp only [refN, ih, h0, h1]
    · simp only [refN, ih, h0, hb, false_and, if_false]
theorem refN_last (S : Nat → Bool) : ∀ B, S B = true → ∃ o s, refN S (B + 1) = o ++ [(s, B + 1)]
  | 0, h => ⟨[], 0, by simp [refN, h]⟩
  | B + 1, h => by
    rw [refN, if_pos h]
    by_cases h1 : S B = true
    · obtain ⟨o, s, e⟩ := refN_last S B h1
      rw [if_pos ⟨by omega, h1⟩, e, grow_snoc]
      exact ⟨o, s, rfl⟩
    · rw [if_neg (fun h2 => h1 h2.2)]
      exact ⟨_, _, rfl⟩
theorem refN_bound (S : Nat → Bool) : ∀ B, ∀ x ∈ refN S B, x.1 < x.2 ∧ x.2 ≤ B
  | 0, x, h => by simp [refN] at h
  | B + 1, x, h => by
    have ih := refN_bound S B
    rw [refN] at h
    split at h
    · split at h
      · rename_i h1 h2
        obtain ⟨o, s, e⟩ := refN_last S (B - 1) h2.2
        rw [show B - 1 + 1 = B by omega] at e
        rw [e, grow_snoc] at h
        rcases List.mem_append.1 h with h | h
        · have := ih x (by rw [e]; exact List.mem_append_left _ h); omega
        · simp at h
          subst h
          have := ih (s, B) (by rw [e]; simp)
          simp at this ⊢
          omega
      · rcases List.mem_append.1 h with h | h
        · have := ih x h; omega
        · simp at h; subst h; simp
    · have := ih x h; omega
/-- The numbers of a list, as a test. -/
def inL (cs : List Nat) (b : Nat) : Bool := decide (b ∈ cs)
theorem runs (cs : List Nat) : cs.Pairwise (· ≤ ·) → ∀ m, (∀ c ∈ cs, c < m) → cs.foldl stepN [] = refN (inL cs) m := by
  induction h : cs.length generalizing cs with
  | zero =>
    intro _ m _
    have : cs = [] := List.eq_nil_of_length_eq_zero h
    subst this
    have := refN_ext (inL []) 0 m (fun b _ _ => by simp [inL])
    rw [Nat.zero_add] at this
    rw [this]
    rfl
  | succ n ih =>
    intro hp m hm
    rcases List.eq_nil_or_concat cs with rfl | ⟨cs', c, hc⟩
    · simp at h
    · rw [List.concat_eq_append] at hc
      subst hc
      have hp' := List.pairwise_append.1 hp
      have hle : ∀ x ∈ cs', x ≤ c := fun x hx => hp'.2.2 x hx c (by simp)
      have hl : cs'.length = n := by simp at h; exact h
      have hcm := hm c (by simp)
      rw [List.foldl_append]
      show stepN (cs'.foldl stepN []) c = _
      have e1 : refN (inL (cs' ++ [c])) m = refN (inL (cs' ++ [c])) (c + 1) := by
        have := refN_ext (inL (cs' ++ [c])) (c + 1) (m - (c + 1)) (fun b h1 h2 => by
          unfold inL
          apply decide_eq_false
          intro hb
          rcases List.mem_append.1 hb with hb | hb
          · have := hle b hb; omega
          · simp at hb; omega)
        rw [show c + 1 + (m - (c + 1)) = m by omega] at this
        exact this
      rw [e1]
      by_cases hin : c ∈ cs'
      · have e2 : refN (inL (cs' ++ [c])) (c + 1) = refN (inL cs') (c + 1) := refN_congr _ _ _ (fun b hb => by
          unfold inL
          by_cases hbc : b = c
          · subst hbc; simp [hin]
          · simp [hbc])
        rw [e2, ih cs' hl hp'.1 (c + 1) (fun x hx => by have := hle x hx; omega)]
        obtain ⟨o, s, e⟩ := refN_last (inL cs') c (by simp [inL, hin])
        rw [e, stepN_snoc, if_neg (by omega), Nat.max_self]
      · have hlt : ∀ x ∈ cs', x < c := fun x hx => by
          have := hle x hx
          rcases Nat.lt_or_ge x c with h1 | h1
          · exact h1
          · obtain rfl : x = c := by omega
            exact absurd hx hin
        have e2 : refN (inL (cs' ++ [c])) c = refN (inL cs') c := refN_congr _ _ _ (fun b hb => by
          unfold inL
          have hbc : ¬ b = c := by omega
          simp [hbc])
        have hS : inL (cs' ++ [c]) c = true := by simp [inL]
        rw [ih cs' hl hp'.1 c hlt, refN, if_pos hS, e2]
        by_cases h0 : 0 < c ∧ inL (cs' ++ [c]) (c - 1) = true
        · have h1 : inL cs' (c - 1) = true := by
            have h2 := h0.2
            unfold inL at h2 ⊢
            have hbc : ¬ c - 1 = c := by omega
            simpa [hbc] using h2
          obtain ⟨o, s, e⟩ := refN_last (inL cs') (c - 1) h1
          rw [show c - 1 + 1 = c by omega] at e
          rw [if_pos h0, e, grow_snoc, stepN_snoc, if_neg (by omega), show max c (c + 1) = c + 1 by omega]
        · rw [if_neg h0]
          rcases List.eq_nil_or_concat (refN (inL cs') c) with h1 | ⟨o, x, h1⟩
          · rw [h1]; rfl
          · rw [List.concat_eq_append] at h1
            obtain ⟨s, e⟩ := x
            have hc0 : 0 < c := by
              rcases Nat.eq_zero_or_pos c with h2 | h2
              · subst h2; simp [refN] at h1
              · exact h2
            have h3 : inL cs' (c - 1) = false := by
              cases h4 : inL cs' (c - 1) with
              | false => rfl
              | true => exact absurd ⟨hc0, by unfold inL at h4 ⊢; simp at h4; simp [h4]⟩ h0
            have h5 : refN (inL cs') c = refN (inL cs') (c - 1) := by
              have := refN_ext (inL cs') (c - 1) 1 (fun b hb1 hb2 => by rw [show b = c - 1 by omega]; exact h3)
              rw [show c - 1 + 1 = c by omega] at this
              exact this
            have h6 := refN_bound (inL cs') (c - 1) (s, e) (by rw [← h5, h1]; simp)
            rw [h1, stepN_snoc, if_pos (by have := h6.2; simp at this; omega)]
end Go.Proofs.YtjjdjanhghahbaaDoor.Runs

/- What is proved: the program's Ranges and the document's, at any numbers, answer the same ranges; the conditions stand in the theorems. -/
import Derived.Test.YtijlanhhelichaaDoorRangesPure
namespace Go.Proofs.YtijlanhhelichaaDoor.RangesPure
open Go.RowKit Go.Proofs.YtijlanhhelichaaDoor.PSpanRanges Go.Proofs.YtijlanhhelichaaDoor.RangesLow Go.Proofs.YtijlanhhelichaaDoor.Runs Go.Proofs.YtijlanhhelichaaDoorW.PrintWords Go.Proofs.YtijlanhhelichaaDoorW.PrintLast
set_option linter.unusedVariables false
set_option linter.unusedSimpArgs false
def valid (d : Int) (b : Int) : Bool := decide (0 ≤ b ∧ b < (cntN d : Int))
theorem rd_get (bs : List Int) (i : Nat) (h : i < bs.length) : rd bs (i : Int) = bs[i] := by
  unfold rd; simp [List.getD, List.getElem?_eq_getElem h]
theorem w_step (i : Nat) (h : i ≤ 4294967296) : wrap64 ((i : Int) + 1) = ((i + 1 : Nat) : Int) := IntWalk.wrap64_in _ (by omega)
section
variable {d : Int} (hd : d = 1 ∨ d = 2 ∨ d = 3)
include hd
theorem prog_loop (bs : List Int) (hl : bs.length ≤ 4294967296) : ∀ (m i k : Nat), i + m = bs.length → 7 + m ≤ k →
    span_Ranges.l0 k d ((bs.take i).map (fun b => rng d b.toNat)) bs (bs.length : Int) (i : Int) = if (bs.drop i).all (valid d) = true then (span_Normal.f (bs.map (fun b => rng d b.toNat))).bind (fun t => some (t, 0)) else some ([], 62) := by
  intro m
  induction m with
  | zero =>
    intro i k hi hk
    obtain ⟨k, rfl⟩ : ∃ q, k = q + 1 := ⟨k - 1, by omega⟩
    obtain rfl : i = bs.length := by omega
    rw [span_Ranges.l0, if_neg (by omega), List.take_length, List.drop_length]
    simp
  | succ m ih =>
    intro i k hi hk
    obtain ⟨k, rfl⟩ : ∃ q, k = q + 1 := ⟨k - 1, by omega⟩
    have hlt : i < bs.length := by omega
    obtain ⟨q, rfl⟩ : ∃ q, k = 6 + q := ⟨k - 6, by omega⟩
    rw [span_Ranges.l0, if_pos (by omega), if_pos (by omega), if_pos (by omega), rd_get bs i hlt, List.drop_eq_getElem_cons hlt, List.all_cons]
    by_cases hv : valid d bs[i] = true
    · have hv' := of_decide_eq_true hv
      obtain ⟨b, hb⟩ := Int.eq_ofNat_of_zero_le hv'.1
      have hbN : b < cntN d := by omega
      have ho : span_Of.f (6 + q) d bs[i] = some (mkB (lowL d b), mkB (hiL d b), 0) := by rw [hb]; exact of_at d b hd hbN q
      rw [ho, Option.bind_some, if_pos rfl, if_pos (by simp; omega), w_step i (by omega), hv, Bool.true_and]
      have h2 := ih (i + 1) (6 + q) (by omega) (by omega)
      rw [List.take_add_one, List.getElem?_eq_getElem hlt, List.map_append] at h2
      have e : ((some bs[i]).toList.map fun b => rng d b.toNat) = [(⟨mkB (lowL d b), mkB (hiL d b)⟩ : S28)] := by rw [hb]; rfl
      rw [e] at h2
      exact h2
    · have hv0 : valid d bs[i] = false := by simpa using hv
      have hbad : bs[i] < 0 ∨ (cntN d : Int) ≤ bs[i] := by
        have h := of_decide_eq_false hv0
        omega
      rw [of_bad d bs[i] hd hbad q, Option.bind_some, if_neg (by decide), hv0, Bool.false_and, if_neg (by decide)]
/-- The document's marks. -/
def marks (bs : List Int) (named : List Bool) : List Bool := bs.foldl (fun a b => a.set b.toNat true) named
omit hd in
theorem marks_len (bs : List Int) : ∀ named : List Bool, (marks bs named).length = named.length := by
  induction bs with
  | nil => intro n; rfl
  | cons b bs ih => intro n; show (marks bs (n.set b.toNat true)).length = _; rw [ih, List.length_set]
omit hd in
theorem marks_get (bs : List Int) (h0 : ∀ b ∈ bs, 0 ≤ b) : ∀ (named : List Bool) (j : Nat), j < named.length → (marks bs named)[j]? = some (named.getD j false || decide ((j : Int) ∈ bs)) := by
  induction bs with
  | nil => intro n j hj; simp [marks, List.getD, List.getElem?_eq_getElem hj]
  | cons b bs ih =>
    intro n j hj
    show (marks bs (n.set b.toNat true))[j]? = _
    rw [ih (fun x hx => h0 x (by simp [hx])) _ j (by simpa using hj)]
    have hb := h0 b (by simp)
    by_cases e : b.toNat = j
    · have e2 : (j : Int) = b := by omega
      simp [List.getD, List.getElem?_set, e, hj, e2]
    · have e2 : ¬ (j : Int) = b := by omega
      simp [List.getD, List.getElem?_set, e, e2]
theorem ref_l0 (bs : List Int) : ∀ (m i k : Nat), i + m = cntN d → hawserref06_Ranges.l0 (m + 1 + k) d bs (cntN d : Int) (List.replicate i false) (i : Int) = hawserref06_Ranges.l1 k d bs (cntN d : Int) (List.replicate (cntN d) false) 0 := by
  obtain ⟨-, -, -, hN, -⟩ := count_in d hd
  intro m
  induction m with
  | zero =>
    intro i k hi
    obtain rfl : i = cntN d := by omega
    rw [show 0 + 1 + k = k + 1 by omega, hawserref06_Ranges.l0, if_neg (by omega)]
  | succ m ih =>
    intro i k hi
    rw [show m + 1 + 1 + k = (m + 1 + k) + 1 by omega, hawserref06_Ranges.l0, if_pos (by omega), if_pos (by simp; omega), w_step i (by omega)]
    have h := ih (i + 1) k (by omega)
    rw [List.replicate_succ'] at h
    exact h
theorem ref_l1 (bs : List Int) (hl : bs.length ≤ 4294967296) : ∀ (m i k : Nat) (named : List Bool), i + m = bs.length → named.length = cntN d →
    hawserref06_Ranges.l1 (m + 1 + k) d bs (cntN d : Int) named (i : Int) = if (bs.drop i).all (valid d) = true then hawserref06_Ranges.l2 k d (cntN d : Int) (marks (bs.drop i) named) [] 0 else some ([], 62) := by
  have _hd := hd
  intro m
  induction m with
  | zero =>
    intro i k named hi hn
    obtain rfl : i = bs.length := by omega
    rw [show 0 + 1 + k = k + 1 by omega, hawserref06_Ranges.l1, if_neg (by omega), List.drop_length]
    simp [marks]
  | succ m ih =>
    intro i k named hi hn
    have hlt : i < bs.length := by omega
    rw [show m + 1 + 1 + k = (m + 1 + k) + 1 by omega, hawserref06_Ranges.l1, if_pos (by omega), if_pos (by omega), rd_get bs i hlt, List.drop_eq_getElem_cons hlt, List.all_cons]
    by_cases hv : valid d bs[i] = true
    · have hv' := of_decide_eq_true hv
      rw [if_neg (by omega), if_neg (by omega), if_pos (by omega), if_pos (by omega), w_step i (by omega), hv, Bool.true_and]
      have h := ih (i + 1) k (named.set bs[i].toNat true) (by omega) (by rw [List.length_set]; exact hn)
      exact h
    · have hv0 : valid d bs[i] = false := by simpa using hv
      have hbad := of_decide_eq_false hv0
      rw [hv0, Bool.false_and, if_neg (show ¬ ((false : Bool) = true) from Bool.false_ne_true)]
      by_cases h1 : bs[i] < 0
      · rw [if_pos h1]
      · rw [if_neg h1, if_pos (by omega)]
theorem ref_l2 (S : Nat → Bool) (named : List Bool) (hn : named.length = cntN d) (hS : ∀ j, j < cntN d → rdOf false named (j : Int) = S j) : ∀ (m b k : Nat), b + m = cntN d → 20 ≤ k →
    hawserref06_Ranges.l2 (m + 1 + k) d (cntN d : Int) named ((refN S b).map (imgR d)) (b : Int) = some ((refN S (cntN d)).map (imgR d), 0) := by
  obtain ⟨-, -, -, hN, -⟩ := count_in d hd
  have hlen : ∀ B, (refN S B).length ≤ B := by
    intro B
    induction B with
    | zero => simp [refN]
    | succ B ih =>
      rw [refN]
      split
      · split
        · rename_i h1 h2
          obtain ⟨o, s, e⟩ := refN_last S (B - 1) h2.2
          rw [show B - 1 + 1 = B by omega] at e
          rw [e, grow_snoc]
          rw [e] at ih
          simp at ih ⊢
          omega
        · simp; omega
      · omega
  intro m
  induction m with
  | zero =>
    intro b k hb hk
    obtain rfl : b = cntN d := by omega
    rw [show 0 + 1 + k = k + 1 by omega, hawserref06_Ranges.l2, if_neg (by omega)]
  | succ m ih =>
    intro b k hb hk
    have hbN : b < cntN d := by omega
    have h2 := ih (b + 1) k (by omega) hk
    have hlb := hlen b
    obtain ⟨q, hq⟩ : ∃ q, m + 1 + k = 20 + q := ⟨m + 1 + k - 20, by omega⟩
    rw [show m + 1 + 1 + k = (m + 1 + k) + 1 by omega, hawserref06_Ranges.l2, if_pos (by omega), if_pos (by omega), if_pos (by omega), hS b hbN]
    rw [refN] at h2
    by_cases h1 : S b = true
    · rw [if_pos h1]
      rw [if_pos h1] at h2
      rw [hq, rof_at d b hd hbN q, Option.bind_some, ← hq]
      by_cases h0 : 0 < b
      · have wm : wrap64 ((b : Int) - 1) = ((b - 1 : Nat) : Int) := by rw [IntWalk.wrap64_in _ (by omega)]; omega
        rw [if_pos (by omega), wm, if_pos (by omega), if_pos (by omega), hS (b - 1) (by omega)]
        by_cases h3 : S (b - 1) = true
        · rw [if_pos h3]
          rw [if_pos ⟨h0, h3⟩] at h2
          obtain ⟨o, s, e⟩ := refN_last S (b - 1) h3
          rw [show b - 1 + 1 = b by omega] at e
          rw [e, grow_snoc] at h2
          rw [e, List.map_append, List.map_cons, List.map_nil]
          have hl : ((o.map (imgR d) ++ [imgR d (s, b)]).length : Int) = ((o.length + 1 : Nat) : Int) := by simp
          have ho : o.length ≤ 4096 := by rw [e] at hlb; simp at hlb; omega
          have wl : wrap64 (((o.length + 1 : Nat) : Int) - 1) = (o.length : Int) := by rw [IntWalk.wrap64_in _ (by omega)]; omega
          rw [hl, wl, if_pos (by omega), if_pos (by omega), w_step b (by omega)]
          have es : (o.map (imgR d) ++ [imgR d (s, b)]).set ((o.length : Int)).toNat (⟨(rd_T31 (o.map (imgR d) ++ [imgR d (s, b)]) (o.length : Int)).f0, mkB (hiL d b)⟩ : S31) = o.map (imgR d) ++ [imgR d (s, b + 1)] := by
            rw [Int.toNat_natCast]
            have e1 : rd_T31 (o.map (imgR d) ++ [imgR d (s, b)]) (o.length : Int) = imgR d (s, b) := by
              unfold rd_T31
              simp [List.getD, List.getElem?_append_right]
            rw [e1, List.set_append_right _ _ (by simp)]
            simp
            rfl
          rw [es]
          rw [List.map_append, List.map_cons, List.map_nil] at h2
          exact h2
        · rw [if_neg h3, if_pos (by simp; omega), w_step b (by omega)]
          rw [if_neg (fun h => h3 h.2), List.map_append, List.map_cons, List.map_nil] at h2
          exact h2
      · have hb0 : b = 0 := by omega
        subst hb0
        rw [if_neg (by omega), if_pos (by simp [refN]), w_step 0 (by omega)]
        rw [if_neg (fun h => absurd h.1 (by omega)), List.map_append, List.map_cons, List.map_nil] at h2
        exact h2
    · rw [if_neg h1, w_step b (by omega)]
      rw [if_neg h1] at h2
      exact h2
end
theorem same_img (d : Int) (L : List (Nat × Nat)) (hL : L.length ≤ 4294967296) : ∀ (m i k : Nat), i + m = L.length → 2 * m + 2 ≤ k → hawserlaw06_same.l0 k (L.map (img d)) (L.map (imgR d)) (i : Int) = some true := by
  intro m
  induction m with
  | zero =>
    intro i k hi hk
    obtain ⟨k, rfl⟩ : ∃ q, k = q + 2 := ⟨k - 2, by omega⟩
    rw [hawserlaw06_same.l0, if_neg (by simp; omega), hawserlaw06_same.j1, if_neg (by decide)]
    simp
  | succ m ih =>
    intro i k hi hk
    obtain ⟨k, rfl⟩ : ∃ q, k = q + 2 := ⟨k - 2, by omega⟩
    have hlt : i < L.length := by omega
    have e1 : rd_T28 (L.map (img d)) (i : Int) = img d L[i] := by unfold rd_T28; simp [List.getD, List.getElem?_eq_getElem hlt]
    have e2 : rd_T31 (L.map (imgR d)) (i : Int) = imgR d L[i] := by unfold rd_T31; simp [List.getD, List.getElem?_eq_getElem hlt]
    rw [hawserlaw06_same.l0, if_pos (by simp; omega), show decide ((i : Int) < ((L.map (imgR d)).length : Int)) = true from decide_eq_true (by simp; omega), hawserlaw06_same.j1, if_pos rfl, if_pos (by omega), if_pos (by simp; omega), if_pos (by simp; omega), e1, e2, if_pos (show (img d L[i]).f0.toList = (imgR d L[i]).f0.toList from rfl), if_pos (show (img d L[i]).f1.toList = (imgR d L[i]).f1.toList from rfl), w_step i (by omega)]
    exact ih (i + 1) k (by omega) (by omega)
/-- Both sides' Ranges. -/
theorem ranges_law (d : Int) (bs : List Int) (hl : bs.length ≤ 1048576) : ∃ (kp kr ks : Nat) (got : List S28) (want : List S31) (e : Int), span_Ranges.f kp d bs = some (got, e) ∧ hawserref06_Ranges.f kr d bs = some (want, e) ∧ hawserlaw06_same.f ks got want = some true := by
  have snil : hawserlaw06_same.f 2 [] [] = some true := by decide +kernel
  by_cases hd : d = 1 ∨ d = 2 ∨ d = 3
  · obtain ⟨c1, c2, c3, c4, -⟩ := count_in d hd
    have hp : span_Ranges.f (7 + bs.length) d bs = if bs.all (valid d) = true then (span_Normal.f (bs.map (fun b => rng d b.toNat))).bind (fun t => some (t, 0)) else some ([], 62) := by
      unfold span_Ranges.f
      rw [show 7 + bs.length = 6 + (1 + bs.length) by omega, count_up d _ c1, Option.bind_some, if_neg (by omega), show 6 + (1 + bs.length) = 7 + bs.length by omega]
      have h := prog_loop hd bs (by omega) bs.length 0 (7 + bs.length) (by omega) (by omega)
      simpa using h
    have hr : hawserref06_Ranges.f (cntN d + 1 + (bs.length + 1 + (cntN d + 1 + 20))) d bs = if bs.all (valid d) = true then hawserref06_Ranges.l2 (cntN d + 1 + 20) d (cntN d : Int) (marks bs (List.replicate (cntN d) false)) [] 0 else some ([], 62) := by
      unfold hawserref06_Ranges.f
      rw [show cntN d + 1 + (bs.length + 1 + (cntN d + 1 + 20)) = 6 + (cntN d + 1 + (bs.length + 1 + (cntN d + 1 + 14))) by omega, rcount_up d _ c2, Option.bind_some, if_neg (by omega), show 6 + (cntN d + 1 + (bs.length + 1 + (cntN d + 1 + 14))) = cntN d + 1 + (bs.length + 1 + (cntN d + 1 + 20)) by omega]
      have h0 := ref_l0 hd bs (cntN d) 0 (bs.length + 1 + (cntN d + 1 + 20)) (by omega)
      have h1 := ref_l1 hd bs (by omega) bs.length 0 (cntN d + 1 + 20) (List.replicate (cntN d) false) (by omega) (by simp)
      rw [List.drop_zero] at h1
      exact h0.trans h1
    by_cases hv : bs.all (valid d) = true
    · rw [if_pos hv] at hp hr
      have hvb : ∀ b ∈ bs, 0 ≤ b ∧ b < (cntN d : Int) := fun b hb => of_decide_eq_true (List.all_eq_true.1 hv b hb)
      have hN := normal_law hd (bs.map Int.toNat) (fun b hb => by
        obtain ⟨x, hx, rfl⟩ := List.mem_map.1 hb
        have := hvb x hx; omega) (by simp; omega)
      rw [List.map_map] at hN
      have e1 : bs.map (fun b => rng d b.toNat) = bs.map (rng d ∘ Int.toNat) := rfl
      rw [e1, hN, Option.bind_some] at hp
      have h2 := ref_l2 hd (inL (bs.map Int.toNat)) (marks bs (List.replicate (cntN d) false)) (by rw [marks_len]; simp) (fun j hj => by
        unfold rdOf
        have h3 := marks_get bs (fun b hb => (hvb b hb).1) (List.replicate (cntN d) false) j (by simpa using hj)
        rw [Int.toNat_natCast, List.getD, h3]
        have h4 : (List.replicate (cntN d) false).getD j false = false := by simp [List.getD, hj]
        rw [h4, Bool.false_or]
        show decide ((j : Int) ∈ bs) = inL (bs.map Int.toNat) j
        unfold inL
        apply decide_eq_decide.2
        constructor
        · intro h; exact List.mem_map.2 ⟨_, h, by simp⟩
        · intro h
          obtain ⟨x, hx, hxj⟩ := List.mem_map.1 h
          have := hvb x hx
          rw [show (j : Int) = x by omega]
          exact hx) (cntN d) 0 20 (by omega) (Nat.le_refl _)
      have hr2 := hr.trans h2
      have hlen : (refN (inL (bs.map Int.toNat)) (cntN d)).length ≤ 4294967296 := by
        have : ∀ B, (refN (inL (bs.map Int.toNat)) B).length ≤ B := by
          intro B
          induction B with
          | zero => simp [refN]
          | succ B ih =>
            rw [refN]
            split
            · split
              · rename_i h1 h2
                obtain ⟨o, s, e⟩ := refN_last (inL (bs.map Int.toNat)) (B - 1) h2.2
                rw [show B - 1 + 1 = B by omega] at e
                rw [e, grow_snoc]
                rw [e] at ih
                simp at ih ⊢
                omega
              · simp; omega
            · omega
        have := this (cntN d)
        omega
      exact ⟨_, _, 2 * (refN (inL (bs.map Int.toNat)) (cntN d)).length + 2, _, _, _, hp, hr2, same_img d _ hlen _ 0 _ (by omega) (Nat.le_refl _)⟩
    · rw [if_neg hv] at hp hr
      exact ⟨_, _, 2, _, _, _, hp, hr, snil⟩
  · obtain ⟨c1, c2⟩ := count_out d hd
    refine ⟨6, 6, 2, [], [], 61, ?_, ?_, snil⟩
    · unfold span_Ranges.f; rw [c1]; rfl
    · unfold hawserref06_Ranges.f; rw [c2]; rfl
end Go.Proofs.YtijlanhhelichaaDoor.RangesPure

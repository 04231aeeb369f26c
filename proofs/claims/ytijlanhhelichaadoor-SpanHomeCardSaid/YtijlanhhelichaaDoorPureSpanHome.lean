/- What is proved: the plain law of SpanHome: what the printed functions compute answers as the statement says; the conditions are the sizes that every argument has. -/
import Derived.Test.YtijlanhhelichaaDoorPSpanHomex4
namespace Go.Proofs.YtijlanhhelichaaDoor.Pure
open Go.RowKit Go.Proofs.YtijlanhhelichaaDoor.PSpanHome Go.Proofs.YtijlanhhelichaaDoorW.PrintWords Go.Proofs.YtijlanhhelichaaDoorW.PrintLast
set_option linter.unusedVariables false
set_option linter.unusedSimpArgs false
abbrev less := Op.bytesLess
theorem less_cons (x y : UInt8) (xs ys : List UInt8) : less (x :: xs) (y :: ys) = true ↔ x.toNat < y.toNat ∨ (x.toNat = y.toNat ∧ less xs ys = true) := by
  simp only [less, Op.bytesLess, Bool.or_eq_true, decide_eq_true_eq, Bool.and_eq_true, beq_iff_eq, UInt8.lt_iff_toNat_lt, ← UInt8.toNat_inj]
theorem less_nil (xs : List UInt8) : less xs [] = false := by cases xs <;> rfl
theorem nil_less (y : UInt8) (ys : List UInt8) : less [] (y :: ys) = true := rfl
theorem less_mid : ∀ b t a : List UInt8, less b t = true → less a t = false → less b a = true
  | b, [], a, h, _ => by rw [less_nil] at h; cases h
  | [], t :: T, [], _, h => by rw [nil_less] at h; cases h
  | [], t :: T, z :: a, _, _ => nil_less z a
  | y :: b, t :: T, [], _, h => by rw [nil_less] at h; cases h
  | y :: b, t :: T, z :: a, h, k => by
    rw [less_cons] at h ⊢
    have k' : ¬ (z.toNat < t.toNat ∨ (z.toNat = t.toNat ∧ less a T = true)) := by rw [← less_cons]; simp [k]
    have k1 : ¬ z.toNat < t.toNat := fun h => k' (.inl h)
    rcases h with h | ⟨h, h2⟩
    · exact .inl (by omega)
    · by_cases e : z.toNat = t.toNat
      · refine .inr ⟨by omega, less_mid b T a h2 ?_⟩
        cases hl : less a T with
        | false => rfl
        | true => exact absurd (.inr ⟨e, hl⟩) k'
      · exact .inl (by omega)
def bAt (K : List UInt8) (i : Nat) : Nat := (K.getD i 0).toNat
theorem bAt_lt (K : List UInt8) (i : Nat) : bAt K i < 256 := UInt8.toNat_lt _
def numN (d : Int) (K : List UInt8) : Nat := if d = 1 then bAt K 0 / 16 else if d = 2 then bAt K 0 else bAt K 0 * 16 + bAt K 1 / 16
def lowN (d : Int) (x : Nat) : List Nat := if x = 0 then [] else if d = 1 then [x * 16] else if d = 2 then [x] else if x % 16 = 0 then [x / 16] else [x / 16, x % 16 * 16]
def lowL (d : Int) (x : Nat) : List UInt8 := (lowN d x).map UInt8.ofNat
def sameAt (d : Int) (b : Nat) : Bool := match span_least.f d b with
  | some x => x.data.toList == lowL d b
  | none => false
theorem least_1 : (List.range 16).all (sameAt 1) = true := by decide +kernel
theorem least_2 : (List.range 256).all (sameAt 2) = true := by decide +kernel
theorem least_3 : (List.range 4096).all (sameAt 3) = true := by decide +kernel
theorem same_of {d : Int} {b : Nat} (h : sameAt d b = true) : ∃ x, span_least.f d b = some x ∧ x.toList = lowL d b := by
  unfold sameAt at h
  split at h
  · rename_i x h1
    refine ⟨x, h1, ?_⟩
    rw [ByteArray.toList_eq]
    exact eq_of_beq h
  · cases h
def cntN (d : Int) : Nat := if d = 1 then 16 else if d = 2 then 256 else 4096
theorem leasts (d : Int) (b : Nat) (hd : d = 1 ∨ d = 2 ∨ d = 3) (h : b < cntN d) : ∃ x, span_least.f d b = some x ∧ x.toList = lowL d b := by
  rcases hd with rfl | rfl | rfl
  · exact same_of (List.all_eq_true.1 least_1 b (List.mem_range.2 h))
  · exact same_of (List.all_eq_true.1 least_2 b (List.mem_range.2 h))
  · exact same_of (List.all_eq_true.1 least_3 b (List.mem_range.2 h))
theorem ofN (n : Nat) (h : n < 256) : (UInt8.ofNat n).toNat = n := by
  rw [UInt8.toNat_ofNat']; omega
theorem below_low (d : Int) (K : List UInt8) (x : Nat) (hd : d = 1 ∨ d = 2 ∨ d = 3) (hx : x < cntN d) : less K (lowL d x) = true ↔ numN d K < x := by
  by_cases h0 : x = 0
  · subst h0
    simp [lowL, lowN, less_nil]
  · have b0 := bAt_lt K 0
    have b1 := bAt_lt K 1
    have one : ∀ c : Nat, 0 < c → c < 256 → (less K [UInt8.ofNat c] = true ↔ bAt K 0 < c) := by
      intro c hc hc2
      cases K with
      | nil => simp [nil_less, bAt, hc]
      | cons y r =>
        rw [less_cons, less_nil, ofN c hc2]
        simp [bAt]
    rcases hd with rfl | rfl | rfl
    · have hx' : x < 16 := hx
      have e : lowL 1 x = [UInt8.ofNat (x * 16)] := by simp [lowL, lowN, h0]
      rw [e, one _ (by omega) (by omega), show numN 1 K = bAt K 0 / 16 from rfl]
      omega
    · have hx' : x < 256 := hx
      have e : lowL 2 x = [UInt8.ofNat x] := by simp [lowL, lowN, h0]
      rw [e, one _ (by omega) (by omega), show numN 2 K = bAt K 0 from rfl]
    · have hx' : x < 4096 := hx
      rw [show numN 3 K = bAt K 0 * 16 + bAt K 1 / 16 from rfl]
      by_cases h1 : x % 16 = 0
      · have e : lowL 3 x = [UInt8.ofNat (x / 16)] := by simp [lowL, lowN, h0, h1]
        rw [e, one _ (by omega) (by omega)]
        omega
      · have e : lowL 3 x = [UInt8.ofNat (x / 16), UInt8.ofNat (x % 16 * 16)] := by simp [lowL, lowN, h0, h1]
        rw [e]
        have e1 := ofN (x / 16) (by omega)
        have e2 := ofN (x % 16 * 16) (by omega)
        match K with
        | [] => simp [nil_less, bAt]; omega
        | [y] =>
          rw [less_cons, nil_less, e1]
          simp [bAt]
          omega
        | y :: z :: r =>
          rw [less_cons, less_cons, less_nil, e1, e2]
          have hz := z.toNat_lt
          simp [bAt]
          omega
theorem count_in (d : Int) (hd : d = 1 ∨ d = 2 ∨ d = 3) : span_count.f 6 d = some (cntN d : Int) ∧ 0 < cntN d ∧ cntN d ≤ 4096 ∧ cntD d = cntN d := by
  rcases hd with rfl | rfl | rfl <;> exact ⟨by decide +kernel, by decide, by decide, by decide⟩
theorem wr_ofNat (n : Nat) (h : n < 9223372036854775808) : wrap64 (n : Int) = n := IntWalk.wrap64_in _ (by omega)
theorem and15 (m : Nat) (h : m < 256) : wrap64 (Go.bits .and .u8 (m : Int) 15) = ((m % 16 : Nat) : Int) := by
  have : ∀ m : Fin 256, wrap64 (Go.bits .and .u8 (m.val : Int) 15) = ((m.val % 16 : Nat) : Int) := by decide +kernel
  exact this ⟨m, h⟩
theorem bt_bAt (s : ByteArray) (j : Nat) : bt s (j : Int) = (bAt s.toList j : Int) := by
  unfold bt bAt
  rw [ByteArray.toList_eq]
  have hl : s.data.toList.length = s.size := by rw [Array.length_toList]; rfl
  simp only [Int.toNat_natCast]
  split
  · rename_i h
    have h2 : j < s.data.toList.length := by omega
    simp [List.getD, List.getElem?_eq_getElem h2]
    rfl
  · rename_i h
    have h2 : s.data.toList.length ≤ j := by omega
    simp [List.getD, List.getElem?_eq_none h2]
theorem size_bAt (s : ByteArray) (j : Nat) (h : (j : Int) ≥ (s.size : Int)) : bAt s.toList j = 0 := by
  unfold bAt
  rw [ByteArray.toList_eq]
  have hl : s.data.toList.length = s.size := by rw [Array.length_toList]; rfl
  have h2 : s.data.toList.length ≤ j := by omega
  simp [List.getD, List.getElem?_eq_none h2]
theorem digit_at (s : ByteArray) (i : Int) (j : Nat) (e : wrap64 (Int.tdiv i 2) = (j : Int)) : span_digit.f s i = some (if Int.tmod i 2 = 0 then ((bAt s.toList j / 16 : Nat) : Int) else ((bAt s.toList j % 16 : Nat) : Int)) := by
  unfold span_digit.f
  rw [e]
  by_cases h1 : (j : Int) ≥ (s.size : Int)
  · rw [if_pos h1, size_bAt s j h1]
    split <;> rfl
  · have hj2 : (j : Int) < (s.size : Int) := by omega
    have hb := bAt_lt s.toList j
    have e1 : wrap64 ((bAt s.toList j : Int) / 16) = ((bAt s.toList j / 16 : Nat) : Int) := wr_ofNat (bAt s.toList j / 16) (by omega)
    simp only [if_neg h1, if_pos (show (0 : Int) ≤ (j : Int) by omega), if_pos hj2, bt_bAt, e1, and15 _ hb]
    split <;> rfl
theorem number_at (d : Int) (s : ByteArray) (hd : d = 1 ∨ d = 2 ∨ d = 3) : span_number.f 6 d s = some (numN d s.toList : Int) := by
  have p0 := digit_at s 0 0 (by decide +kernel)
  have p1 := digit_at s 1 0 (by decide +kernel)
  have p2 := digit_at s 2 1 (by decide +kernel)
  rw [if_pos (by decide)] at p0
  rw [if_neg (by decide)] at p1
  rw [if_pos (by decide)] at p2
  have w1 : wrap64 (0 + 1) = 1 := by decide +kernel
  have w2 : wrap64 (1 + 1) = 2 := by decide +kernel
  have w3 : wrap64 (2 + 1) = 3 := by decide +kernel
  have b0 := bAt_lt s.toList 0
  have b1 := bAt_lt s.toList 1
  have z : wrap64 (0 * 16) = 0 := by decide +kernel
  have a0 : wrap64 (0 + ((bAt s.toList 0 / 16 : Nat) : Int)) = ((bAt s.toList 0 / 16 : Nat) : Int) := by rw [Int.zero_add]; exact wr_ofNat _ (by omega)
  have a1 : wrap64 (wrap64 (((bAt s.toList 0 / 16 : Nat) : Int) * 16) + ((bAt s.toList 0 % 16 : Nat) : Int)) = ((bAt s.toList 0 : Nat) : Int) := by
    rw [IntWalk.wrap64_in _ (by omega : -9223372036854775808 ≤ ((bAt s.toList 0 / 16 : Nat) : Int) * 16 ∧ ((bAt s.toList 0 / 16 : Nat) : Int) * 16 ≤ 9223372036854775807), IntWalk.wrap64_in _ (by omega)]
    omega
  have a2 : wrap64 (wrap64 (((bAt s.toList 0 : Nat) : Int) * 16) + ((bAt s.toList 1 / 16 : Nat) : Int)) = ((bAt s.toList 0 * 16 + bAt s.toList 1 / 16 : Nat) : Int) := by
    rw [IntWalk.wrap64_in _ (by omega : -9223372036854775808 ≤ ((bAt s.toList 0 : Nat) : Int) * 16 ∧ ((bAt s.toList 0 : Nat) : Int) * 16 ≤ 9223372036854775807), IntWalk.wrap64_in _ (by omega)]
    omega
  unfold span_number.f
  rcases hd with rfl | rfl | rfl
  · rw [span_number.l0, if_pos (by decide), p0, Option.bind_some, w1, span_number.l0, if_neg (by decide), z, a0]
    rfl
  · rw [span_number.l0, if_pos (by decide), p0, Option.bind_some, w1, span_number.l0, if_pos (by decide), p1, Option.bind_some, w2, span_number.l0, if_neg (by decide), z, a0, a1]
    rfl
  · rw [span_number.l0, if_pos (by decide), p0, Option.bind_some, w1, span_number.l0, if_pos (by decide), p1, Option.bind_some, w2, span_number.l0, if_pos (by decide), p2, Option.bind_some, w3, span_number.l0, if_neg (by decide), z, a0, a1, a2]
    rfl
theorem numN_lt (d : Int) (K : List UInt8) (hd : d = 1 ∨ d = 2 ∨ d = 3) : numN d K < cntN d := by
  have b0 := bAt_lt K 0
  have b1 := bAt_lt K 1
  rcases hd with rfl | rfl | rfl
  · show bAt K 0 / 16 < 16; omega
  · show bAt K 0 < 256; omega
  · show bAt K 0 * 16 + bAt K 1 / 16 < 4096; omega
theorem bucket_at (d : Int) (s : ByteArray) (hd : d = 1 ∨ d = 2 ∨ d = 3) (h1 : 1 ≤ s.size) (h2 : s.size ≤ 1024) : ∀ n, span_Bucket.f (6 + n) d s = some ((numN d s.toList : Int), 0)
  | 0 => by
    obtain ⟨c1, c2, -, -⟩ := count_in d hd
    unfold span_Bucket.f span_Check.f
    rw [c1, Option.bind_some, if_neg (by omega), if_neg (by omega), if_neg (by omega), Option.bind_some, if_pos rfl, number_at d s hd]
    rfl
  | n + 1 => span_Bucket.mono d s (6 + n) _ (bucket_at d s hd h1 h2 n)
theorem of_at (d : Int) (x : Nat) (hd : d = 1 ∨ d = 2 ∨ d = 3) (hx : x < cntN d) : ∃ lo hi : ByteArray, (∀ n, span_Of.f (6 + n) d x = some (lo, hi, 0)) ∧ lo.toList = lowL d x ∧ hi.toList = (if x + 1 < cntN d then lowL d (x + 1) else []) := by
  obtain ⟨c1, c2, c3, c4⟩ := count_in d hd
  obtain ⟨lo, p, e⟩ := leasts d x hd hx
  have w1 : wrap64 ((x : Int) + 1) = ((x + 1 : Nat) : Int) := IntWalk.wrap64_in _ (by omega)
  have hq : ∃ hi : ByteArray, span_least.f d ((x + 1 : Nat) : Int) = some hi ∧ hi.toList = (if x + 1 < cntN d then lowL d (x + 1) else []) := by
    by_cases h3 : x + 1 < cntN d
    · rw [if_pos h3]
      exact leasts d (x + 1) hd h3
    · rw [if_neg h3]
      refine ⟨⟨#[]⟩, ?_, by rw [ByteArray.toList_eq]⟩
      unfold span_least.f
      rw [if_pos ⟨hd, by omega⟩, if_pos (by omega)]
  obtain ⟨hi, q, e2⟩ := hq
  refine ⟨lo, hi, fun n => ?_, e, e2⟩
  induction n with
  | zero =>
    unfold span_Of.f
    rw [c1, Option.bind_some, if_neg (by omega), if_neg (by omega), show decide ((x : Int) ≥ (cntN d : Int)) = false from decide_eq_false (by omega)]
    simp only [span_Of.j0, Bool.false_eq_true, if_false]
    rw [w1, p, Option.bind_some, q]
    rfl
  | succ n ih => exact span_Of.mono d x (6 + n) _ ih
theorem has_at (d : Int) (x : Nat) (lo hi s : ByteArray) (hd : d = 1 ∨ d = 2 ∨ d = 3) (hx : x < cntN d) (e1 : lo.toList = lowL d x) (e2 : hi.toList = (if x + 1 < cntN d then lowL d (x + 1) else [])) :
    span_Has.f lo hi s = some (decide (numN d s.toList = x)) := by
  have hn := numN_lt d s.toList hd
  have l1 := below_low d s.toList x hd hx
  unfold span_Has.f
  rw [e1, e2]
  by_cases h1 : less s.toList (lowL d x) = true
  · have h1' := l1.1 h1
    rw [if_pos h1, decide_eq_false (by omega)]
  · have h1' : ¬ numN d s.toList < x := fun h => h1 (l1.2 h)
    rw [if_neg h1]
    by_cases h3 : x + 1 < cntN d
    · have l2 := below_low d s.toList (x + 1) hd h3
      have hne : lowL d (x + 1) ≠ [] := by
        intro e
        rw [e, less_nil] at l2
        by_cases h4 : numN d s.toList < x + 1
        · exact absurd (l2.2 h4) (by simp)
        · have l3 := below_low d [] (x + 1) hd h3
          rw [e, less_nil] at l3
          have : numN d [] = 0 := by rcases hd with rfl | rfl | rfl <;> rfl
          rw [this] at l3
          exact absurd (l3.2 (by omega)) (by simp)
      rw [if_pos h3, if_neg hne]
      by_cases h4 : less s.toList (lowL d (x + 1)) = true
      · have h4' := l2.1 h4
        rw [show Op.bytesLess s.toList (lowL d (x + 1)) = true from h4, decide_eq_true (by omega)]
      · have h4' : ¬ numN d s.toList < x + 1 := fun h => h4 (l2.2 h)
        have h5 : Op.bytesLess s.toList (lowL d (x + 1)) = false := by simpa using h4
        rw [h5, decide_eq_false (by omega)]
    · rw [if_neg h3, if_pos rfl, decide_eq_true (by omega)]
theorem order_at (d : Int) (a b : List UInt8) (hd : d = 1 ∨ d = 2 ∨ d = 3) (h : less b a = false) : numN d a ≤ numN d b := by
  rcases Nat.lt_or_ge (numN d b) (numN d a) with h1 | h1
  · have ha := numN_lt d a hd
    have t1 := (below_low d b (numN d a) hd ha).2 h1
    have t2 : less a (lowL d (numN d a)) = false := by
      cases hl : less a (lowL d (numN d a)) with
      | false => rfl
      | true => exact absurd ((below_low d a (numN d a) hd ha).1 hl) (by omega)
    have := less_mid b _ a t1 t2
    rw [h] at this
    cases this
  · exact h1
/-- One round: the depth d's bucket, out of the one above. -/
theorem round (n : Nat) (a b : ByteArray) (d above : Int) (hd : d = 1 ∨ d = 2 ∨ d = 3) (h1 : 1 ≤ a.size) (h2 : a.size ≤ 1024) (h3 : 1 ≤ b.size) (h4 : b.size ≤ 1024) (hab : ((numN d a.toList / 16 : Nat) : Int) = above) :
    hawserlaw06_SpanHome.l0 (9 + n) a b above d = hawserlaw06_SpanHome.l0 (6 + n) a b (numN d a.toList : Int) (d + 1) := by
  have hx := numN_lt d a.toList hd
  have hy := numN_lt d b.toList hd
  obtain ⟨lo, hi, p, e1, e2⟩ := of_at d _ hd hx
  obtain ⟨lo', hi', p', e1', e2'⟩ := of_at d _ hd hy
  have p8 := p (n + 2)
  have p8' := p' (n + 2)
  have q8 := bucket_at d a hd h1 h2 (n + 2)
  have q8' := bucket_at d b hd h3 h4 (n + 2)
  rw [show 6 + (n + 2) = 8 + n by omega] at p8 p8' q8 q8'
  have w1 : wrap64 (d + 1) = d + 1 := IntWalk.wrap64_in _ (by rcases hd with rfl | rfl | rfl <;> decide)
  have wq : wrap64 (Int.tdiv (numN d a.toList : Int) 16) = above := by
    rw [← hab]
    exact wr_ofNat (numN d a.toList / 16) (by have := (count_in d hd).2.2.1; omega)
  rw [show 9 + n = (8 + n) + 1 by omega, hawserlaw06_SpanHome.l0, if_pos (by rcases hd with rfl | rfl | rfl <;> decide), q8, Option.bind_some, q8', Option.bind_some, p8, Option.bind_some, p8', Option.bind_some]
  simp only [if_true]
  rw [show 8 + n = (7 + n) + 1 by omega, hawserlaw06_SpanHome.j2, show ((0 : Int) != 0) = false from rfl, if_neg (by decide), has_at d _ lo hi a hd hx e1 e2, Option.bind_some, decide_eq_true rfl, if_pos rfl, has_at d _ lo' hi' b hd hy e1' e2', Option.bind_some, decide_eq_true rfl, if_pos rfl, has_at d _ lo hi b hd hx e1 e2, Option.bind_some, has_at d _ lo' hi' a hd hy e1' e2', Option.bind_some]
  have f1 : (decide (numN d b.toList = numN d a.toList) != ((numN d a.toList : Int) == (numN d b.toList : Int))) = false := by
    by_cases h : numN d a.toList = numN d b.toList
    · simp [h]
    · have h' : ¬ numN d b.toList = numN d a.toList := fun e => h e.symm
      have h'' : ¬ (numN d a.toList : Int) = (numN d b.toList : Int) := by omega
      simp [h', h'']
  have f2 : (decide (numN d a.toList = numN d b.toList) != ((numN d a.toList : Int) == (numN d b.toList : Int))) = false := by
    by_cases h : numN d a.toList = numN d b.toList
    · simp [h]
    · have h'' : ¬ (numN d a.toList : Int) = (numN d b.toList : Int) := by omega
      simp [h, h'']
  rw [f1, if_neg (by decide), f2, show 7 + n = (6 + n) + 1 by omega, hawserlaw06_SpanHome.j3, if_neg (by decide), wq, if_pos rfl, w1]
  by_cases h : Op.bytesLess b.toList a.toList = true
  · rw [if_pos h]
  · have h' : less b.toList a.toList = false := by simpa using h
    have ho := order_at d a.toList b.toList hd h'
    rw [if_neg h, if_neg (by omega)]
theorem SpanHome : hawserlaw06_SpanHome.Pure := by
  intro a b _ _
  refine ⟨20, ?_⟩
  have ha : hawserlaw06_awake.f 20 = some true := by decide +kernel
  unfold hawserlaw06_SpanHome.f
  rw [ha, Option.bind_some, if_pos rfl]
  unfold hawserlaw06_may.f
  have out : (¬ (1 ≤ a.size ∧ a.size ≤ 1024) ∨ ¬ (1 ≤ b.size ∧ b.size ≤ 1024)) → hawserlaw06_SpanHome.j0 20 a b true = some true := by
    intro h
    rw [hawserlaw06_SpanHome.j0, if_pos rfl]
    unfold span_Check.f
    by_cases a1 : (a.size : Int) < 1
    · rw [if_pos a1]; rfl
    · rw [if_neg a1]
      by_cases a2 : (a.size : Int) > 1024
      · rw [if_pos a2]; rfl
      · rw [if_neg a2, Option.bind_some, if_pos rfl]
        by_cases b1 : (b.size : Int) < 1
        · rw [if_pos b1]; rfl
        · rw [if_neg b1]
          by_cases b2 : (b.size : Int) > 1024
          · rw [if_pos b2]; rfl
          · rcases h with h | h <;> exact absurd ⟨by omega, by omega⟩ h
  by_cases a1 : (a.size : Int) ≥ 1
  · rw [if_pos a1, Option.bind_some]
    by_cases a2 : (a.size : Int) ≤ 1024
    · rw [decide_eq_true a2, if_pos rfl]
      by_cases b1 : (b.size : Int) ≥ 1
      · rw [if_pos b1, Option.bind_some]
        by_cases b2 : (b.size : Int) ≤ 1024
        · rw [decide_eq_true b2]
          show hawserlaw06_SpanHome.j0 20 a b false = some true
          rw [hawserlaw06_SpanHome.j0, if_neg (by decide)]
          have b0 := bAt_lt a.toList 0
          have b1' := bAt_lt a.toList 1
          have s1 := round 10 a b 1 0 (.inl rfl) (by omega) (by omega) (by omega) (by omega) (by show (((bAt a.toList 0 / 16) / 16 : Nat) : Int) = 0; omega)
          have s2 := round 7 a b 2 (numN 1 a.toList : Int) (.inr (.inl rfl)) (by omega) (by omega) (by omega) (by omega) rfl
          have s3 := round 4 a b 3 (numN 2 a.toList : Int) (.inr (.inr rfl)) (by omega) (by omega) (by omega) (by omega) (by show (((bAt a.toList 0 * 16 + bAt a.toList 1 / 16) / 16 : Nat) : Int) = (bAt a.toList 0 : Int); omega)
          show hawserlaw06_SpanHome.l0 (9 + 10) a b 0 1 = some true
          rw [s1]
          show hawserlaw06_SpanHome.l0 (9 + 7) a b (numN 1 a.toList : Int) 2 = some true
          rw [s2]
          show hawserlaw06_SpanHome.l0 (9 + 4) a b (numN 2 a.toList : Int) 3 = some true
          rw [s3]
          show hawserlaw06_SpanHome.l0 (9 + 1) a b (numN 3 a.toList : Int) 4 = some true
          rw [hawserlaw06_SpanHome.l0, if_neg (by decide)]
        · rw [decide_eq_false b2]
          exact out (.inr (by omega))
      · rw [if_neg b1, Option.bind_some]
        exact out (.inr (by omega))
    · rw [decide_eq_false a2, if_neg (by decide)]
      exact out (.inl (by omega))
  · rw [if_neg a1, Option.bind_some, if_neg (by decide)]
    exact out (.inl (by omega))
end Go.Proofs.YtijlanhhelichaaDoor.Pure

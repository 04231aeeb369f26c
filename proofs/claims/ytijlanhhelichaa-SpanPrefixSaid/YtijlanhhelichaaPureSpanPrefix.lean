/- What is proved: the plain law of SpanPrefix: what the printed functions compute answers as the statement says; the conditions are the sizes that every argument has. -/
import Derived.Test.YtijlanhhelichaaPSpanPrefixx2
namespace Go.Proofs.Ytijlanhhelichaa.Pure
open Go.RowKit Go.Proofs.Ytijlanhhelichaa.PSpanPrefix Go.Proofs.YtijlanhhelichaaW.PrintWords Go.Proofs.YtijlanhhelichaaW.PrintLast
set_option linter.unusedVariables false
set_option linter.unusedSimpArgs false
abbrev less := Op.bytesLess
theorem less_cons (x y : UInt8) (xs ys : List UInt8) : less (x :: xs) (y :: ys) = true ↔ x.toNat < y.toNat ∨ (x.toNat = y.toNat ∧ less xs ys = true) := by
  simp only [less, Op.bytesLess, Bool.or_eq_true, decide_eq_true_eq, Bool.and_eq_true, beq_iff_eq, UInt8.lt_iff_toNat_lt, ← UInt8.toNat_inj]
theorem less_nil (xs : List UInt8) : less xs [] = false := by cases xs <;> rfl
theorem nil_less (y : UInt8) (ys : List UInt8) : less [] (y :: ys) = true := rfl
theorem pre_full : ∀ (F K : List UInt8), (∀ x ∈ F, x.toNat = 255) → (less K F = false ↔ F <+: K)
  | [], K, _ => by simp [less_nil]
  | x :: F, [], _ => by simp [nil_less]
  | x :: F, y :: K, h => by
    have hx : x.toNat = 255 := h x (by simp)
    have ih := pre_full F K (fun z hz => h z (by simp [hz]))
    have hy := y.toNat_lt
    rw [List.cons_prefix_cons, ← ih, ← Bool.not_eq_true, less_cons]
    constructor
    · intro hn
      have e : y.toNat = x.toNat := by omega
      exact ⟨UInt8.toNat_inj.1 e.symm, by
        cases hl : less K F with
        | false => rfl
        | true => exact absurd (.inr ⟨e, hl⟩) hn⟩
    · rintro ⟨rfl, h2⟩ (h3 | ⟨-, h3⟩)
      · omega
      · rw [h2] at h3; cases h3
theorem pre_part : ∀ (A F K : List UInt8) (x z : UInt8), (∀ x ∈ F, x.toNat = 255) → z.toNat = x.toNat + 1 → ((less K (A ++ x :: F) = false ∧ less K (A ++ [z]) = true) ↔ (A ++ x :: F) <+: K)
  | [], F, [], x, z, hF, hz => by simp [nil_less]
  | [], F, y :: K, x, z, hF, hz => by
    have ih := pre_full F K hF
    rw [List.nil_append, List.nil_append, List.cons_prefix_cons, ← ih, ← Bool.not_eq_true, less_cons, less_cons, less_nil]
    constructor
    · rintro ⟨h1, h2⟩
      have e : y.toNat = x.toNat := by
        rcases h2 with h2 | ⟨-, h2⟩
        · have : ¬ y.toNat < x.toNat := fun h => h1 (.inl h)
          omega
        · cases h2
      exact ⟨UInt8.toNat_inj.1 e.symm, by
        cases hl : less K F with
        | false => rfl
        | true => exact absurd (.inr ⟨e, hl⟩) h1⟩
    · rintro ⟨rfl, h2⟩
      refine ⟨?_, .inl (by omega)⟩
      rintro (h3 | ⟨-, h3⟩)
      · omega
      · rw [h2] at h3; cases h3
  | a :: A, F, [], x, z, hF, hz => by simp [nil_less]
  | a :: A, F, y :: K, x, z, hF, hz => by
    have ih := pre_part A F K x z hF hz
    rw [List.cons_append, List.cons_append, List.cons_prefix_cons, ← ih, ← Bool.not_eq_true, less_cons, less_cons]
    constructor
    · rintro ⟨h1, h2⟩
      have e : y.toNat = a.toNat := by
        have : ¬ y.toNat < a.toNat := fun h => h1 (.inl h)
        rcases h2 with h2 | ⟨h2, -⟩ <;> omega
      refine ⟨UInt8.toNat_inj.1 e.symm, ?_, ?_⟩
      · cases hl : less K (A ++ x :: F) with
        | false => rfl
        | true => exact absurd (.inr ⟨e, hl⟩) h1
      · rcases h2 with h2 | ⟨-, h2⟩
        · omega
        · exact h2
    · rintro ⟨rfl, h2, h3⟩
      refine ⟨?_, .inr ⟨rfl, h3⟩⟩
      rintro (h4 | ⟨-, h4⟩)
      · omega
      · rw [h2] at h4; cases h4
theorem keep_zero (s : ByteArray) : ∀ k, keep s k = 0 → ∀ j, j < k → byteAt s j = 255
  | 0, _, j, hj => by omega
  | k + 1, h, j, hj => by
    unfold keep at h
    split at h
    · rename_i hb
      rcases Nat.lt_or_ge j k with h1 | h1
      · exact keep_zero s k h j h1
      · obtain rfl : j = k := by omega
        exact hb
    · omega
theorem keep_succ (s : ByteArray) : ∀ k i, keep s k = i + 1 → i < k ∧ byteAt s i ≠ 255 ∧ ∀ j, i < j → j < k → byteAt s j = 255
  | 0, i, h => by unfold keep at h; omega
  | k + 1, i, h => by
    unfold keep at h
    split at h
    · rename_i hb
      obtain ⟨h1, h2, h3⟩ := keep_succ s k i h
      refine ⟨by omega, h2, fun j hj hk => ?_⟩
      rcases Nat.lt_or_ge j k with h4 | h4
      · exact h3 j hj h4
      · obtain rfl : j = k := by omega
        exact hb
    · rename_i hb
      obtain rfl : k = i := by omega
      exact ⟨by omega, hb, fun j hj hk => by omega⟩
theorem byteAt_get (s : ByteArray) (j : Nat) (h : j < s.data.toList.length) : byteAt s j = ((s.data.toList[j]).toNat : Int) := by
  unfold byteAt
  simp [List.getD, List.getElem?_eq_getElem h]
theorem len_eq (s : ByteArray) : s.data.toList.length = s.size := by rw [Array.length_toList]; rfl
/-- What Prefix gives, as lists. -/
theorem pref_law (s : ByteArray) (K : List UInt8) : (less K s.data.toList = false ∧ ((prefTo s).data.toList = [] ∨ less K (prefTo s).data.toList = true)) ↔ s.data.toList <+: K := by
  have hl := len_eq s
  unfold prefTo
  cases hk : keep s s.size with
  | zero =>
    have h0 := keep_zero s s.size hk
    have hF : ∀ x ∈ s.data.toList, x.toNat = 255 := by
      intro x hx
      obtain ⟨j, hj, rfl⟩ := List.mem_iff_getElem.1 hx
      have h1 := h0 j (by omega)
      rw [byteAt_get s j hj] at h1
      omega
    rw [← pre_full _ K hF]
    simp
  | succ i =>
    obtain ⟨h1, h2, h3⟩ := keep_succ s s.size i hk
    have hi : i < s.data.toList.length := by omega
    have hx := byteAt_get s i hi
    have hT : (strOfNums ((List.range i).map (byteAt s) ++ [(byteAt s i + 1) % 256])).data.toList = s.data.toList.take i ++ [UInt8.ofNat ((s.data.toList[i]).toNat + 1)] := by
      apply List.ext_getElem?
      intro j
      unfold strOfNums
      simp only [List.map_append, List.map_map, List.map_cons, List.map_nil]
      rcases Nat.lt_trichotomy j i with hj | hj | hj
      · rw [List.getElem?_append_left (by simp; omega), List.getElem?_append_left (by simp; omega)]
        have hj2 : j < s.data.toList.length := by omega
        simp only [List.getElem?_map, List.getElem?_range hj, Option.map_some, Function.comp, byteAt_get s j hj2, List.getElem?_take, if_pos hj, List.getElem?_eq_getElem hj2]
        simp
      · subst hj
        rw [List.getElem?_append_right (by simp), List.getElem?_append_right (by simp; omega)]
        have hb := (s.data.toList[j]).toNat_lt
        have e : (byteAt s j + 1) % 256 = (((s.data.toList[j]).toNat + 1 : Nat) : Int) := by rw [hx]; rw [hx] at h2; omega
        rw [e]
        have ez : j - (List.map ((fun n => UInt8.ofNat n.toNat) ∘ byteAt s) (List.range j)).length = 0 := by simp
        have ez2 : j - (s.data.toList.take j).length = 0 := by simp; omega
        rw [ez, ez2]
        simp
      · rw [List.getElem?_eq_none (by simp; omega), List.getElem?_eq_none (by simp; omega)]
    have hP : s.data.toList = s.data.toList.take i ++ s.data.toList[i] :: s.data.toList.drop (i + 1) := by
      rw [← List.drop_eq_getElem_cons hi, List.take_append_drop]
    have hF : ∀ x ∈ s.data.toList.drop (i + 1), x.toNat = 255 := by
      intro x hx
      obtain ⟨j, hj, rfl⟩ := List.mem_iff_getElem.1 hx
      rw [List.length_drop] at hj
      rw [List.getElem_drop]
      have h4 := h3 (i + 1 + j) (by omega) (by omega)
      rw [byteAt_get s _ (by omega)] at h4
      omega
    have hz : (UInt8.ofNat ((s.data.toList[i]).toNat + 1)).toNat = (s.data.toList[i]).toNat + 1 := by
      have hb := (s.data.toList[i]).toNat_lt
      rw [UInt8.toNat_ofNat']
      have : (s.data.toList[i]).toNat ≠ 255 := by intro e; apply h2; rw [hx, e]; rfl
      omega
    have key := pre_part (s.data.toList.take i) (s.data.toList.drop (i + 1)) K _ _ hF hz
    rw [← hP] at key
    simp only []
    rw [hT, ← key]
    constructor
    · rintro ⟨a, b | b⟩
      · simp at b
      · exact ⟨a, b⟩
    · rintro ⟨a, b⟩
      exact ⟨a, .inr b⟩
theorem has_one (p t key : ByteArray) : hawserlaw06_has.f 10 [(⟨p, t⟩ : S24)] key = some (decide (less key.data.toList p.data.toList = false ∧ (t.data.toList = [] ∨ less key.data.toList t.data.toList = true))) := by
  have e0 : rd_T24 [(⟨p, t⟩ : S24)] 0 = ⟨p, t⟩ := rfl
  have w1 : wrap64 (0 + 1) = 1 := by decide +kernel
  have hl : (([(⟨p, t⟩ : S24)] : List S24).length : Int) = 1 := rfl
  unfold hawserlaw06_has.f
  rw [hawserlaw06_has.l0, hl, if_pos (by decide), if_pos (by decide), e0, w1]
  have end_ : hawserlaw06_has.l0 9 [(⟨p, t⟩ : S24)] key 1 = some false := by
    rw [hawserlaw06_has.l0, hl, if_neg (by decide)]
  rw [end_, ByteArray.toList_eq, ByteArray.toList_eq, ByteArray.toList_eq]
  unfold less
  by_cases h1 : Op.bytesLess key.data.toList p.data.toList = true
  · simp [h1]
  · have h1' : Op.bytesLess key.data.toList p.data.toList = false := by simpa using h1
    rw [if_neg h1]
    by_cases h2 : t.data.toList = []
    · simp [h1', h2]
    · rw [if_neg h2]
      by_cases h3 : Op.bytesLess key.data.toList t.data.toList = true
      · simp [h1', h3]
      · have h3' : Op.bytesLess key.data.toList t.data.toList = false := by simpa using h3
        simp [h1', h2, h3']
theorem hasPre (key p : ByteArray) : strings_HasPrefix.f key p = some (decide (p.data.toList <+: key.data.toList)) := by
  unfold strings_HasPrefix.f stringslite_HasPrefix.f
  have l1 := len_eq key
  have l2 := len_eq p
  by_cases h : (key.size : Int) ≥ (p.size : Int)
  · rw [if_pos h, if_pos (by omega), if_pos (by omega), Option.bind_some, ByteArray.toList_eq, ByteArray.toList_eq]
    congr 1
    have e : (key.extract 0 ((p.size : Int) : Int).toNat).data.toList = key.data.toList.take p.data.toList.length := by
      rw [ByteArray.data_extract, Array.toList_extract, List.extract_eq_take_drop, l2]
      simp
    rw [e, Bool.eq_iff_iff, beq_iff_eq, decide_eq_true_iff, List.prefix_iff_eq_take]
    exact eq_comm
  · rw [if_neg h, Option.bind_some]
    congr 1
    symm
    rw [decide_eq_false_iff_not]
    intro hp
    have := hp.length_le
    omega
theorem SpanPrefix : hawserlaw06_SpanPrefix.Pure := by
  intro p key hp hk
  refine ⟨10, ?_⟩
  have ha : hawserlaw06_awake.f 10 = some true := by decide +kernel
  have hf : span_Prefix.f p = some (p, prefTo p) := by
    unfold span_Prefix.f
    rw [if_pos (by unfold maxLen; omega)]
  unfold hawserlaw06_SpanPrefix.f
  rw [ha, Option.bind_some, if_pos rfl, hf, Option.bind_some, if_pos rfl, has_one, Option.bind_some, hasPre, Option.bind_some, has_one]
  have h1 := pref_law p key.data.toList
  have h2 := (pref_law p (p ++ key).data.toList).2 (by rw [ByteArray.data_append, Array.toList_append]; exact List.prefix_append _ _)
  simp only [h1, h2]
  simp
  omega
end Go.Proofs.Ytijlanhhelichaa.Pure

/- What is proved: contracts of functions that the law uses, each under the conditions that its theorem states. -/
import Derived.Test.YtmjmjjhfficilaaDoorPSpanMeetsx0
import Derived.Test.YtmjmjjhfficilaaDoorPSpanMeetsx1
import Derived.Test.YtmjmjjhfficilaaDoorPSpanMeetsx2
import Derived.Test.YtmjmjjhfficilaaDoorPSpanMeetsx3
import Derived.Test.YtmjmjjhfficilaaDoorPSpanMeetsx4
import Derived.Test.YtmjmjjhfficilaaDoorPSpanMeetsx5
namespace Go.Proofs.YtmjmjjhfficilaaDoor.PSpanMeets
open Go.RowKit Go.Proofs.YtmjmjjhfficilaaDoorW.PrintWords Go.Proofs.YtmjmjjhfficilaaDoorW.PrintLast Go.Proofs.YtmjmjjhfficilaaDoorW.PrintMore
set_option linter.unusedVariables false
set_option linter.unusedSimpArgs false
/-! #### the document's side -/
section
open Go.Proofs.YtmjmjjhfficilaaDoor.Texts
def pX (x : S28) : R := (x.f0.toList, x.f1.toList)
theorem rdX (l : List S28) (i : Nat) (h : i < l.length) : rd_T28 l (i : Int) = l[i] := by unfold rd_T28; simp [List.getD, List.getElem?_eq_getElem h]
theorem has_ref (x : S28) (k : ByteArray) : hawserref06_Has.f x.f0 x.f1 k = some (has (pX x) k.toList) := by
  unfold hawserref06_Has.f has pX
  cases a : Op.bytesLess k.toList x.f0.toList with
  | true => simp [a]
  | false =>
    rw [if_neg Bool.false_ne_true]
    by_cases q : x.f1.toList = []
    · rw [if_pos q]; simp [a, q]
    · rw [if_neg q]; simp [a, q]
theorem in_ref (l : List S28) (key : ByteArray) (hl : l.length ≤ 4294967296) : ∀ (m i k : Nat), i + m = l.length → hawserref06_in.l0 (m + 1 + k) l key (i : Int) = some (hasL ((l.drop i).map pX) key.toList) := by
  intro m
  induction m with
  | zero =>
    intro i k hi
    obtain rfl : i = l.length := by omega
    rw [show 0 + 1 + k = k + 1 by omega, hawserref06_in.l0, if_neg (by omega), List.drop_length]
    rfl
  | succ m ih =>
    intro i k hi
    have hlt : i < l.length := by omega
    have h := ih (i + 1) k (by omega)
    rw [show m + 1 + 1 + k = (m + 1 + k) + 1 by omega, hawserref06_in.l0, if_pos (by omega), if_pos (by omega), rdX l i hlt, has_ref, Option.bind_some, List.drop_eq_getElem_cons hlt, List.map_cons, hasL_cons]
    cases e : has (pX l[i]) key.toList with
    | true => rw [if_pos rfl]; rfl
    | false => rw [if_neg Bool.false_ne_true, w_up i (by omega), h, Bool.false_or]
theorem in_f (l : List S28) (key : ByteArray) (hl : l.length ≤ 4294967296) (k : Nat) (hk : l.length + 1 ≤ k) : hawserref06_in.f k l key = some (hasL (l.map pX) key.toList) := by
  obtain ⟨q, rfl⟩ : ∃ q, k = l.length + 1 + q := ⟨k - (l.length + 1), by omega⟩
  have h := in_ref l key hl l.length 0 q (by omega)
  unfold hawserref06_in.f
  rw [List.drop_zero] at h
  exact h
/-- What is wanted of two lists. -/
def want (what : Int) (a b : List S28) (k : T) : Bool := if what = 1 then hasL (a.map pX) k && hasL (b.map pX) k else if what = 2 then hasL (a.map pX) k && !hasL (b.map pX) k else hasL (a.map pX) k || hasL (b.map pX) k
theorem wanted_f (what : Int) (a b : List S28) (key : ByteArray) (ha : a.length ≤ 4294967296) (hb : b.length ≤ 4294967296) (k : Nat) (hk : a.length + b.length + 1 ≤ k) : hawserref06_wanted.f k what a b key = some (want what a b key.toList) := by
  unfold hawserref06_wanted.f want
  rw [in_f a key ha k (by omega), Option.bind_some, in_f b key hb k (by omega), Option.bind_some]
  generalize hasL (a.map pX) key.toList = x
  generalize hasL (b.map pX) key.toList = y
  by_cases q1 : what = 1
  · rw [if_pos q1, if_pos q1]; cases x <;> rfl
  · rw [if_neg q1, if_neg q1]
    by_cases q2 : what = 2
    · rw [if_pos q2, if_pos q2]; cases x <;> rfl
    · rw [if_neg q2, if_neg q2]; cases x <;> rfl
def ends (x : S28) : List ByteArray := [x.f0, x.f1]
theorem marks_l1 (b : List S28) (hb : b.length ≤ 4294967296) : ∀ (m i k : Nat) (out : List ByteArray), i + m = b.length → out.length + 2 * m < 8796093022208 → hawserref06_marks.l1 (m + 1 + k) b out (i : Int) = (sort_Strings.f (out ++ (b.drop i).flatMap ends)).bind fun t => hawserref06_marks.l2 k t [] 0 := by
  intro m
  induction m with
  | zero =>
    intro i k out hi ho
    obtain rfl : i = b.length := by omega
    rw [show 0 + 1 + k = k + 1 by omega, hawserref06_marks.l1, if_neg (by omega), List.drop_length, List.flatMap_nil, List.append_nil]
  | succ m ih =>
    intro i k out hi ho
    have hlt : i < b.length := by omega
    have h := ih (i + 1) k (out ++ ends b[i]) (by omega) (by simp [ends]; omega)
    rw [show m + 1 + 1 + k = (m + 1 + k) + 1 by omega, hawserref06_marks.l1, if_pos (by omega), if_pos (by omega), Option.bind_some, if_pos (by simp; omega), rdX b i hlt, w_up i (by omega), List.drop_eq_getElem_cons hlt, List.flatMap_cons, ← List.append_assoc]
    exact h
theorem marks_l0 (a b : List S28) (ha : a.length ≤ 4294967296) : ∀ (m i k : Nat) (out : List ByteArray), i + m = a.length → out.length + 2 * m < 8796093022208 → hawserref06_marks.l0 (m + 1 + k) a b out (i : Int) = hawserref06_marks.l1 k b (out ++ (a.drop i).flatMap ends) 0 := by
  intro m
  induction m with
  | zero =>
    intro i k out hi ho
    obtain rfl : i = a.length := by omega
    rw [show 0 + 1 + k = k + 1 by omega, hawserref06_marks.l0, if_neg (by omega), List.drop_length, List.flatMap_nil, List.append_nil]
  | succ m ih =>
    intro i k out hi ho
    have hlt : i < a.length := by omega
    have h := ih (i + 1) k (out ++ ends a[i]) (by omega) (by simp [ends]; omega)
    rw [show m + 1 + 1 + k = (m + 1 + k) + 1 by omega, hawserref06_marks.l0, if_pos (by omega), if_pos (by omega), Option.bind_some, if_pos (by simp; omega), rdX a i hlt, w_up i (by omega), List.drop_eq_getElem_cons hlt, List.flatMap_cons, ← List.append_assoc]
    exact h
/-- Each once. -/
def ded (L : List ByteArray) : Nat → List ByteArray
  | 0 => []
  | i + 1 => if i = 0 then ded L i ++ [L.getD i ByteArray.empty] else if (L.getD i ByteArray.empty).toList = (L.getD (i - 1) ByteArray.empty).toList then ded L i else ded L i ++ [L.getD i ByteArray.empty]
theorem ded_len (L : List ByteArray) : ∀ i, (ded L i).length ≤ i
  | 0 => by simp [ded]
  | i + 1 => by
    have := ded_len L i
    rw [ded]
    repeat' split
    all_goals simp
    all_goals omega
theorem marks_l2 (L : List ByteArray) (hL : L.length ≤ 4294967296) : ∀ (m i k : Nat), i + m = L.length → hawserref06_marks.l2 (m + 1 + k) L (ded L i) (i : Int) = some (ded L L.length) := by
  intro m
  induction m with
  | zero =>
    intro i k hi
    obtain rfl : i = L.length := by omega
    rw [show 0 + 1 + k = k + 1 by omega, hawserref06_marks.l2, if_neg (by omega)]
  | succ m ih =>
    intro i k hi
    have hlt : i < L.length := by omega
    have hd := ded_len L i
    have h := ih (i + 1) k (by omega)
    have g1 : L.getD i ByteArray.empty = L[i] := by simp [List.getD, List.getElem?_eq_getElem hlt]
    rw [show m + 1 + 1 + k = (m + 1 + k) + 1 by omega, hawserref06_marks.l2, if_pos (by omega), rdB L i hlt]
    rw [ded] at h
    by_cases q : i = 0
    · rw [if_pos q, g1] at h
      rw [if_pos (by omega), if_pos (by omega), if_pos (by omega), w_up i (by omega)]
      exact h
    · rw [if_neg q] at h
      have hlt2 : i - 1 < L.length := by omega
      have g2 : L.getD (i - 1) ByteArray.empty = L[i - 1] := by simp [List.getD, List.getElem?_eq_getElem hlt2]
      rw [g1, g2] at h
      rw [if_neg (by omega), if_pos (by omega), w_down i (by omega) (by omega), if_pos (by omega), if_pos (by omega), rdB L (i - 1) hlt2, w_up i (by omega)]
      by_cases e : L[i].toList = L[i - 1].toList
      · rw [if_pos e] at h ⊢; exact h
      · rw [if_neg e] at h
        rw [if_neg e, if_pos (by omega)]
        exact h
theorem ded_ok (L : List ByteArray) (hs : L.Pairwise fun a b => lt b.toList a.toList = false) : ∀ i, i ≤ L.length → ((ded L i).map ByteArray.toList).Pairwise (fun a b => lt a b = true) ∧ (∀ j (hj : j < L.length), j < i → L[j].toList ∈ (ded L i).map ByteArray.toList) ∧ (∀ x ∈ ded L i, ∀ (hi : i - 1 < L.length), lt (L[i - 1]).toList x.toList = false) ∧ ∀ x ∈ ded L i, x ∈ L
  | 0, _ => ⟨List.Pairwise.nil, fun j _ h => (by omega), fun x hx => (by cases hx), fun x hx => (by cases hx)⟩
  | i + 1, hi => by
    obtain ⟨a, b, c, d⟩ := ded_ok L hs i (by omega)
    have hlt : i < L.length := by omega
    have g1 : L.getD i ByteArray.empty = L[i] := by simp [List.getD, List.getElem?_eq_getElem hlt]
    rw [ded]
    by_cases q : i = 0
    · subst q
      rw [if_pos rfl, g1]
      refine ⟨by simp [ded], fun j hj hji => ?_, fun x hx hi2 => ?_, fun x hx => ?_⟩
      · obtain rfl : j = 0 := by omega
        simp [ded]
      · simp [ded] at hx
        subst hx
        exact irrefl _
      · simp [ded] at hx
        subst hx
        exact List.getElem_mem _
    · rw [if_neg q]
      have hlt2 : i - 1 < L.length := by omega
      have g2 : L.getD (i - 1) ByteArray.empty = L[i - 1] := by simp [List.getD, List.getElem?_eq_getElem hlt2]
      rw [g1, g2]
      have hle : lt L[i].toList L[i - 1].toList = false := (List.pairwise_iff_getElem.1 hs) (i - 1) i hlt2 hlt (by omega)
      by_cases e : L[i].toList = L[i - 1].toList
      · rw [if_pos e]
        refine ⟨a, fun j hj hji => ?_, fun x hx hi2 => ?_, d⟩
        · by_cases ej : j = i
          · subst ej
            rw [e]
            exact b (j - 1) hlt2 (by omega)
          · exact b j hj (by omega)
        · have h := c x hx hlt2
          simp only [Nat.add_sub_cancel]
          rw [e]; exact h
      · rw [if_neg e]
        have hlt3 : lt L[i - 1].toList L[i].toList = true := by
          cases e2 : lt L[i - 1].toList L[i].toList with
          | true => rfl
          | false => exact absurd (eq_of_not hle e2) e
        refine ⟨?_, fun j hj hji => ?_, fun x hx hi2 => ?_, fun x hx => ?_⟩
        · rw [List.map_append, List.pairwise_append]
          refine ⟨a, by simp, fun x hx y hy => ?_⟩
          obtain ⟨x', hx', rfl⟩ := List.mem_map.1 hx
          simp at hy
          subst hy
          exact le_lt (c x' hx' hlt2) hlt3
        · rw [List.map_append]
          by_cases ej : j = i
          · subst ej
            exact List.mem_append_right _ (by simp)
          · exact List.mem_append_left _ (b j hj (by omega))
        · simp only [Nat.add_sub_cancel]
          rcases List.mem_append.1 hx with hx | hx
          · exact asymm (le_lt (c x hx hlt2) hlt3)
          · rw [List.mem_singleton.1 hx]; exact irrefl _
        · rcases List.mem_append.1 hx with hx | hx
          · exact d x hx
          · rw [List.mem_singleton.1 hx]; exact List.getElem_mem _
theorem list_lt : ∀ a b : List UInt8, a < b ↔ lt a b = true
  | [], [] => by simp [lt_nil]
  | [], y :: b => by simp [nil_lt]
  | x :: a, [] => by simp [lt_nil]
  | x :: a, y :: b => by
    rw [List.cons_lt_cons_iff, lt_cons, list_lt a b, UInt8.lt_iff_toNat_lt, ← UInt8.toNat_inj]
theorem sortB_ok (l : List ByteArray) : (sortB l).Pairwise (fun a b => lt b.toList a.toList = false) ∧ ∀ x, x ∈ sortB l ↔ x ∈ l := by
  have hle : ∀ a b : List UInt8, decide (a ≤ b) = !lt b a := by
    intro a b
    cases e : lt b a with
    | true => exact decide_eq_false (fun h => (List.not_lt.2 h) ((list_lt b a).2 e))
    | false => exact decide_eq_true (List.not_lt.1 (fun h => by rw [(list_lt b a).1 h] at e; cases e))
  constructor
  · unfold sortB
    rw [List.pairwise_map]
    have h := List.pairwise_mergeSort (le := fun x y : List UInt8 => decide (x ≤ y)) (fun a b c h1 h2 => by
      rw [hle] at *
      simp at h1 h2 ⊢
      exact Texts.le_trans h1 h2) (fun a b => by
      rw [hle, hle]
      cases e : lt b a with
      | false => rfl
      | true => rw [asymm e]; rfl) (l.map keyB)
    refine h.imp (fun {a b} h => ?_)
    rw [hle] at h
    simp at h
    rw [ByteArray.toList_eq, ByteArray.toList_eq]
    simpa [mkS] using h
  · intro x
    unfold sortB
    rw [List.mem_map]
    constructor
    · rintro ⟨s, hs, rfl⟩
      obtain ⟨y, hy, rfl⟩ := List.mem_map.1 ((List.mergeSort_perm _ _).mem_iff.1 hs)
      rw [mkS_key]; exact hy
    · intro hx
      exact ⟨keyB x, (List.mergeSort_perm _ _).mem_iff.2 (List.mem_map_of_mem hx), mkS_key x⟩
/-- The document's marks: rising, from the least text on, every end among them. -/
theorem marks_f (a b : List S28) (ha : a.length ≤ 1048576) (hb : b.length ≤ 1048576) (k : Nat) (hk : 3 * a.length + 3 * b.length + 8 ≤ k) : ∃ M rest : List ByteArray, hawserref06_marks.f k a b = some M ∧ M.length ≤ 2 * a.length + 2 * b.length + 1 ∧ M.map ByteArray.toList = [] :: rest.map ByteArray.toList ∧ (M.map ByteArray.toList).Pairwise (fun a b => lt a b = true) ∧ ∀ x, (x ∈ a ∨ x ∈ b) → x.f0.toList ∈ M.map ByteArray.toList ∧ x.f1.toList ∈ M.map ByteArray.toList := by
  have fl : ∀ l : List S28, (l.flatMap ends).length = 2 * l.length := by
    intro l
    induction l with
    | nil => rfl
    | cons x l ih => rw [List.flatMap_cons, List.length_append, ih]; simp [ends]; omega
  obtain ⟨e, he⟩ : ∃ e, e = (⟨#[]⟩ : ByteArray) := ⟨_, rfl⟩
  obtain ⟨L0, hL0⟩ : ∃ L0, L0 = [e] ++ a.flatMap ends ++ b.flatMap ends := ⟨_, rfl⟩
  have hlen : L0.length = 2 * a.length + 2 * b.length + 1 := by rw [hL0, List.length_append, List.length_append, fl, fl]; simp; omega
  obtain ⟨q, rfl⟩ : ∃ q, k = a.length + 1 + (b.length + 1 + ((sortB L0).length + 1 + q)) := ⟨k - (a.length + 1 + (b.length + 1 + ((sortB L0).length + 1))), by rw [sortB_len, hlen]; omega⟩
  obtain ⟨hs, hmem⟩ := sortB_ok L0
  obtain ⟨d1, d2, -, d4⟩ := ded_ok (sortB L0) hs (sortB L0).length (Nat.le_refl _)
  have hin : ∀ x ∈ L0, x.toList ∈ (ded (sortB L0) (sortB L0).length).map ByteArray.toList := by
    intro x hx
    obtain ⟨j, hj, rfl⟩ := List.mem_iff_getElem.1 ((hmem x).2 hx)
    exact d2 j hj hj
  have h0 : ([] : T) ∈ (ded (sortB L0) (sortB L0).length).map ByteArray.toList := by
    have := hin e (by rw [hL0]; simp)
    rw [he, ByteArray.toList_eq] at this
    exact this
  refine ⟨ded (sortB L0) (sortB L0).length, (ded (sortB L0) (sortB L0).length).drop 1, ?_, ?_, ?_, d1, ?_⟩
  · have h1 := marks_l0 a b (by omega) a.length 0 (b.length + 1 + ((sortB L0).length + 1 + q)) [e] (by omega) (by simp; omega)
    have h2 := marks_l1 b (by omega) b.length 0 ((sortB L0).length + 1 + q) ([e] ++ a.flatMap ends) (by omega) (by rw [List.length_append, fl]; simp; omega)
    have h3 := marks_l2 (sortB L0) (by rw [sortB_len]; omega) (sortB L0).length 0 q (by omega)
    rw [List.drop_zero] at h1 h2
    rw [← hL0] at h2
    have h4 : sort_Strings.f L0 = some (sortB L0) := by unfold sort_Strings.f; rw [if_pos (by omega)]
    rw [h4, Option.bind_some] at h2
    unfold hawserref06_marks.f
    rw [← he]
    exact h1.trans (h2.trans h3)
  · have := ded_len (sortB L0) (sortB L0).length
    rw [sortB_len, hlen] at this
    rw [sortB_len, hlen]; exact this
  · cases hM : ded (sortB L0) (sortB L0).length with
    | nil => rw [hM] at h0; cases h0
    | cons x r =>
      rw [hM] at h0 d1
      rw [List.drop_one, List.tail_cons, List.map_cons]
      rw [List.map_cons] at h0 d1
      rcases List.mem_cons.1 h0 with h1 | h1
      · rw [← h1]
      · have := (List.pairwise_cons.1 d1).1 _ h1
        rw [lt_nil] at this; cases this
  · intro x hx
    have hx0 : x.f0 ∈ L0 ∧ x.f1 ∈ L0 := by
      rw [hL0]
      rcases hx with hx | hx
      · exact ⟨List.mem_append_left _ (List.mem_append_right _ (List.mem_flatMap.2 ⟨x, hx, by simp [ends]⟩)), List.mem_append_left _ (List.mem_append_right _ (List.mem_flatMap.2 ⟨x, hx, by simp [ends]⟩))⟩
      · exact ⟨List.mem_append_right _ (List.mem_flatMap.2 ⟨x, hx, by simp [ends]⟩), List.mem_append_right _ (List.mem_flatMap.2 ⟨x, hx, by simp [ends]⟩)⟩
    exact ⟨hin _ hx0.1, hin _ hx0.2⟩
def stepB (w : T → Bool) (out : List S28) (s t : ByteArray) : List S28 :=
  if w s.toList = true then
    match out.getLast? with
    | none => [⟨s, t⟩]
    | some x => if x.f1.toList = s.toList then out.dropLast ++ [⟨x.f0, t⟩] else out ++ [⟨s, t⟩]
  else out
theorem stepB_map (w : T → Bool) (out : List S28) (s t : ByteArray) : (stepB w out s t).map pX = stepL w (out.map pX) s.toList t.toList ∧ (stepB w out s t).length ≤ out.length + 1 := by
  unfold stepB stepL
  by_cases hw : w s.toList = true
  · rw [if_pos hw, if_pos hw]
    rcases List.eq_nil_or_concat out with rfl | ⟨o, x, h⟩
    · exact ⟨rfl, by simp⟩
    · rw [List.concat_eq_append] at h
      subst h
      have e1 : (o ++ [x]).getLast? = some x := by simp
      have e2 : ((o ++ [x]).map pX).getLast? = some (pX x) := by simp
      rw [e1, e2]
      show (if x.f1.toList = s.toList then _ else _ : List S28).map pX = (if x.f1.toList = s.toList then _ else _) ∧ (if x.f1.toList = s.toList then _ else _ : List S28).length ≤ _
      split
      · refine ⟨?_, by simp⟩
        simp [pX]
      · refine ⟨?_, by simp⟩
        simp [pX]
  · rw [if_neg hw, if_neg hw]
    exact ⟨rfl, by omega⟩
theorem lay_j1 (what : Int) (a b : List S28) (ha : a.length ≤ 1048576) (hb : b.length ≤ 1048576) (M : List ByteArray) (out : List S28) (i k : Nat) (t : ByteArray) (hi : i < M.length) (hM : M.length ≤ 4294967296) (ho : out.length ≤ i) (hk : a.length + b.length + 1 ≤ k) :
    hawserref06_Lay.j1 (k + 1) what a b out M (i : Int) t = hawserref06_Lay.l0 k what a b (stepB (want what a b) out M[i] t) M ((i + 1 : Nat) : Int) := by
  rw [hawserref06_Lay.j1, if_pos (by omega), if_pos (by omega), rdB M i hi, wanted_f what a b _ (by omega) (by omega) k hk, Option.bind_some, w_up i (by omega)]
  unfold stepB
  by_cases hw : want what a b M[i].toList = true
  · rw [if_pos hw, if_pos hw]
    rcases List.eq_nil_or_concat out with rfl | ⟨o, x, h⟩
    · have w0 : wrap64 (((([] : List S28).length : Nat) : Int) - 1) = -1 := IntWalk.wrap64_in _ (by simp)
      rw [w0, if_neg (by omega), if_pos (by simp)]
      rfl
    · rw [List.concat_eq_append] at h
      subst h
      have e1 : (o ++ [x]).getLast? = some x := by simp
      have hl : ((o ++ [x]).length : Int) = ((o.length + 1 : Nat) : Int) := by simp
      have hol : o.length + 1 ≤ i := by simpa using ho
      have w1 : wrap64 (((o ++ [x]).length : Int) - 1) = (o.length : Int) := by rw [hl, IntWalk.wrap64_in _ (by omega)]; omega
      have rx : rd_T28 (o ++ [x]) (o.length : Int) = x := by
        rw [rdX (o ++ [x]) o.length (by simp)]; simp
      rw [e1, w1, if_pos (by omega), if_pos (by omega), if_pos (by rw [hl]; omega), rx]
      show (if x.f1.toList = M[i].toList then _ else _) = hawserref06_Lay.l0 k what a b (if x.f1.toList = M[i].toList then _ else _) M _
      by_cases q : x.f1.toList = M[i].toList
      · rw [if_pos q, if_pos q, Int.toNat_natCast]
        have es : (o ++ [x]).set o.length (⟨x.f0, t⟩ : S28) = (o ++ [x]).dropLast ++ [⟨x.f0, t⟩] := by
          rw [List.set_append_right _ _ (Nat.le_refl _)]; simp
        rw [es]
      · rw [if_neg q, if_neg q, if_pos (by simp; omega)]
  · rw [if_neg hw, if_neg hw]
theorem lay_ref (what : Int) (a b : List S28) (ha : a.length ≤ 1048576) (hb : b.length ≤ 1048576) (M : List ByteArray) (hM : M.length ≤ 4294967296) : ∀ (m i k : Nat) (out : List S28), i + m = M.length → out.length ≤ i → a.length + b.length + 1 ≤ k →
    ∃ out', hawserref06_Lay.l0 (2 * m + 1 + k) what a b out M (i : Int) = some out' ∧ out'.length ≤ M.length ∧ out'.map pX = layL (want what a b) (out.map pX) ((M.drop i).map ByteArray.toList) := by
  intro m
  induction m with
  | zero =>
    intro i k out hi ho hk
    obtain rfl : i = M.length := by omega
    refine ⟨out, ?_, ho, ?_⟩
    · rw [show 2 * 0 + 1 + k = k + 1 by omega, hawserref06_Lay.l0, if_neg (by omega)]
    · rw [List.drop_length]; rfl
  | succ m ih =>
    intro i k out hi ho hk
    have hlt : i < M.length := by omega
    have key : ∀ t : ByteArray, t.toList = ((M.drop (i + 1)).map ByteArray.toList).headD [] → ∃ out', hawserref06_Lay.j1 ((2 * m + 1 + k) + 1) what a b out M (i : Int) t = some out' ∧ out'.length ≤ M.length ∧ out'.map pX = layL (want what a b) (out.map pX) ((M.drop i).map ByteArray.toList) := by
      intro t ht
      obtain ⟨s1, s2⟩ := stepB_map (want what a b) out M[i] t
      obtain ⟨out', h1, h2, h3⟩ := ih (i + 1) k (stepB (want what a b) out M[i] t) (by omega) (by omega) hk
      refine ⟨out', ?_, h2, ?_⟩
      · rw [lay_j1 what a b ha hb M out i (2 * m + 1 + k) t hlt hM ho (by omega)]; exact h1
      · rw [h3, s1, List.drop_eq_getElem_cons hlt, List.map_cons, layL, ← ht]
    rw [show 2 * (m + 1) + 1 + k = ((2 * m + 1 + k) + 1) + 1 by omega, hawserref06_Lay.l0, if_pos (by omega), w_up i (by omega)]
    by_cases h2 : i + 1 < M.length
    · rw [if_pos (by omega), if_pos (by omega), rdB M (i + 1) h2]
      exact key M[i + 1] (by rw [List.drop_eq_getElem_cons h2]; rfl)
    · rw [if_neg (by omega)]
      refine key _ ?_
      rw [List.drop_eq_nil_of_le (by omega), ByteArray.toList_eq]
      rfl
/-- What the document lays out of two lists: the normal form of what is wanted. -/
theorem lay_f (what : Int) (a b : List S28) (ha : a.length ≤ 1048576) (hb : b.length ≤ 1048576) : ∃ (k : Nat) (out : List S28), hawserref06_Lay.f k what a b = some out ∧ out.length ≤ 4194305 ∧ NF (out.map pX) ∧ ∀ x, hasL (out.map pX) x = want what a b x := by
  obtain ⟨q, hq⟩ : ∃ q, q = a.length + b.length + 1 + (3 * a.length + 3 * b.length + 8) := ⟨_, rfl⟩
  obtain ⟨M, rest, hm, hlen, hM, hp, hin⟩ := marks_f a b ha hb (3 * a.length + 3 * b.length + 8) (Nat.le_refl _)
  have up : ∀ n, hawserref06_marks.f (3 * a.length + 3 * b.length + 8 + n) a b = some M := by
    intro n
    induction n with
    | zero => exact hm
    | succ n ih => exact hawserref06_marks.mono a b _ _ ih
  obtain ⟨out, h1, h2, h3⟩ := lay_ref what a b ha hb M (by omega) M.length 0 q [] (by omega) (by simp) (by omega)
  rw [List.drop_zero, hM] at h3
  have hc : Const (want what a b) ([] :: rest.map ByteArray.toList) := by
    rw [← hM]
    refine const_of _ [] _ (by simpa using hp) (fun s k hs hk he => ?_)
    have ea : hasL (a.map pX) k = hasL (a.map pX) s := hasL_const _ (M.map ByteArray.toList) (fun x hx => by
      obtain ⟨y, hy, rfl⟩ := List.mem_map.1 hx
      exact hin y (.inl hy)) s k (fun e h => he e (by simpa using h))
    have eb : hasL (b.map pX) k = hasL (b.map pX) s := hasL_const _ (M.map ByteArray.toList) (fun x hx => by
      obtain ⟨y, hy, rfl⟩ := List.mem_map.1 hx
      exact hin y (.inr hy)) s k (fun e h => he e (by simpa using h))
    unfold want
    rw [ea, eb]
  rw [hM] at hp
  obtain ⟨g1, g2⟩ := lay_all (want what a b) (rest.map ByteArray.toList) hp hc
  refine ⟨2 * M.length + 1 + q, out, ?_, by omega, by rw [h3]; exact g1, fun x => by rw [h3]; exact g2 x⟩
  unfold hawserref06_Lay.f
  have e := up (2 * M.length + 1 + (a.length + b.length + 1))
  rw [show 3 * a.length + 3 * b.length + 8 + (2 * M.length + 1 + (a.length + b.length + 1)) = 2 * M.length + 1 + q by omega] at e
  rw [e, Option.bind_some]
  exact h1
/-! ### both -/
theorem same_f (got : List S27) (wnt : List S28) (h : got.map pR = wnt.map pX) (hl : got.length ≤ 4294967296) : ∀ (m i k : Nat), i + m = got.length → 2 * m + 2 ≤ k → hawserlaw06_same.l0 k got wnt (i : Int) = some true := by
  have hlen : got.length = wnt.length := by have := congrArg List.length h; simpa using this
  intro m
  induction m with
  | zero =>
    intro i k hi hk
    obtain ⟨k, rfl⟩ : ∃ q, k = q + 2 := ⟨k - 2, by omega⟩
    rw [hawserlaw06_same.l0, if_neg (by omega), hawserlaw06_same.j1, if_neg (by decide), hlen]
    simp
  | succ m ih =>
    intro i k hi hk
    obtain ⟨k, rfl⟩ : ∃ q, k = q + 2 := ⟨k - 2, by omega⟩
    have hlt : i < got.length := by omega
    have hlt2 : i < wnt.length := by omega
    have e := congrArg (fun l => l[i]?) h
    simp only [List.getElem?_map, List.getElem?_eq_getElem hlt, List.getElem?_eq_getElem hlt2, Option.map_some] at e
    injection e with e
    have e0 : got[i].f0.toList = wnt[i].f0.toList := congrArg Prod.fst e
    have e1 : got[i].f1.toList = wnt[i].f1.toList := congrArg Prod.snd e
    rw [hawserlaw06_same.l0, if_pos (by omega), show decide ((i : Int) < (wnt.length : Int)) = true from decide_eq_true (by omega), hawserlaw06_same.j1, if_pos rfl, if_pos (by omega), if_pos (by omega), if_pos (by omega), rdR got i hlt, rdX wnt i hlt2, if_pos e0, if_pos e1, w_up i (by omega)]
    exact ih (i + 1) k (by omega) (by omega)
def conv (x : S27) : S28 := ⟨x.f0, x.f1⟩
theorem plain_l0 (l : List S27) (hl : l.length ≤ 1048576) : ∀ (m i k : Nat), i + m = l.length → hawserlaw06_plain.l0 (m + 1 + k) l ((l.take i).map conv) (i : Int) = some (l.map conv) := by
  intro m
  induction m with
  | zero =>
    intro i k hi
    obtain rfl : i = l.length := by omega
    rw [show 0 + 1 + k = k + 1 by omega, hawserlaw06_plain.l0, if_neg (by omega), List.take_length]
  | succ m ih =>
    intro i k hi
    have hlt : i < l.length := by omega
    have h := ih (i + 1) k (by omega)
    rw [List.take_add_one, List.getElem?_eq_getElem hlt, List.map_append] at h
    rw [show m + 1 + 1 + k = (m + 1 + k) + 1 by omega, hawserlaw06_plain.l0, if_pos (by omega), if_pos (by omega), if_pos (by simp; omega), rdR l i hlt, w_up i (by omega)]
    exact h
theorem conv_p (l : List S27) : (l.map conv).map pX = l.map pR := by rw [List.map_map]; rfl
end
/-! #### the law's own functions -/
/-- The mark. -/
def sM : ByteArray := ⟨#[109, 97, 114, 107]⟩
def sK : ByteArray := ⟨#[107, 114, 97, 109]⟩
def mk : S27 := ⟨sM, sK⟩
def Mark (w : World) : Prop := w.cell? ⟨0, 0, none⟩ = some (.string sM) ∧ w.cell? ⟨0, 1, none⟩ = some (.string sK)
theorem Mark.below {w w' : World} (h : Mark w) (hb : Below w.heap.size w w') : Mark w' :=
  ⟨(hb.cell (show 0 < w.heap.size from World.block_lt_of_cell? w _ h.1)).trans h.1, (hb.cell (show 0 < w.heap.size from World.block_lt_of_cell? w _ h.1)).trans h.2⟩
theorem rep_succ (l : List S27) (i : Nat) : l ++ List.replicate (i + 1) mk = l ++ List.replicate i mk ++ [mk] := by
  rw [List.replicate_succ', List.append_assoc]
set_option maxRecDepth 100000 in
set_option maxHeartbeats 8000000 in
theorem roomy (w : World) (A : Option Addr) (c : Nat) (l : List S27) (hr : Kd.C k27 w A l.length l) (hc : l.length ≤ c) (hl : l.length ≤ 1048576) (hm : Mark w) :
    Calls Tryd.prog 12 #[.slice A l.length c] w fun e w' => ∃ A' c', e = .returned (.slice A' l.length c') ∧ l.length + 12 ≤ c' ∧ Kd.R k27 27 w' w.heap.size (fun _ => True) (.slice A' (l.length + 12) c') (l ++ List.replicate 12 mk) ∧ Below w.heap.size w w' := by
  have R := Lib.hid (And.intro hr (And.intro hl hm))
  obtain ⟨n, hn⟩ : ∃ n, RowKit.Hid (n = l.length) := ⟨_, Lib.hid rfl⟩
  have hnl : n ≤ 1048576 := by rw [hn.out]; exact hl
  have hrn : RowKit.Hid (Kd.C k27 w A n l) := Lib.hid (by rw [hn.out]; exact hr)
  rw [← hn.out] at hc ⊢
  clear hr hl hm
  go_enter Tryd.func12, Tryd.ntmps12
  go_upto_region 3 with (first
    | (at_builtin; refine Kd.R_append_rows k27 (Rr := k27.K w) (w0 := w) w.heap.size rfl (.const (.slice none 0 0)) (.tmp 5) 35 27 (.agg #[.string ⟨#[]⟩, .string ⟨#[]⟩]) 32 rfl Tryd.underlying35 infoR rfl (by decide) (by decide) (.slice none 0 0) [] l A n c (fun _ => True) (fun _ => False) rfl rfl (Kd.R_nil _ _ _ _ _) hrn.out (fun x cs h => by rw [k27_open h]; exact k27_mkM _ _ _ x) (fun _ h => h.elim) (fun _ _ => trivial) (Below.refl _ _) (Nat.le_refl _) (by have := hn.out; simp; omega) ?_; intro v1 w1 hR1 hb1 hg1 hat1))
  rw [List.nil_append] at hR1
  have F := Lib.hid (And.intro hR1 hb1)
  clear hR1 hb1 hg1 hat1
  go_loopw [3, 4] (fun v iv wr => ∃ i : Nat, i ≤ 12 ∧ iv = .int .i64 i ∧ Kd.R k27 27 wr w.heap.size (fun _ => True) v (l ++ List.replicate i mk) ∧ Below w.heap.size w wr) (fun _ iv _ => 12 - (intOf iv).toNat)
  case atStart => exact ⟨0, by omega, rfl, by simpa using F.out.1, F.out.2⟩
  case round =>
    obtain ⟨i, hi, rfl, hR, hb⟩ := hrel
    by_cases hlt : i < 12
    · have u12 : (i : Int) < 12 := by omega
      obtain ⟨m0, m1⟩ := R.out.2.2.below hb
      have hf0 : wr.heap.size ≥ w.heap.size := hb.size
      obtain ⟨rr, hrr⟩ : ∃ rr, RowKit.Hid (rr = l ++ List.replicate i mk) := ⟨_, Lib.hid rfl⟩
      have hrl : RowKit.Hid (rr.length ≤ 1048588) := Lib.hid (by rw [hrr.out, List.length_append, List.length_replicate]; have := R.out.2.1; omega)
      rw [← hrr.out] at hR
      obtain ⟨Av, cv, rfl, hcv, -⟩ := Kd.R_reads hR
      have H := Lib.hid (And.intro hR hb)
      obtain ⟨q, hq⟩ : ∃ q, RowKit.Hid (q = rr.length) := ⟨_, Lib.hid rfl⟩
      rw [← hq.out]
      clear hR hb hcv
      go_wp2_with (first
        | (at_builtin; refine Kd.R_append k27 (w0 := w) w.heap.size rfl (.tmp 11) (.tmp 13) 35 27 (.agg #[.string ⟨#[]⟩, .string ⟨#[]⟩]) 32 rfl Tryd.underlying35 infoR rfl (by decide) (by decide) (.slice Av q cv) rr mk [.string sM, .string sK] (fun _ => True) (fun _ => False) rfl rfl (k27_mkM _ _ _ mk) (fun _ h => h.elim) (fun _ _ => trivial) (by rw [hq.out]; exact H.out.1) H.out.2 hf0 (by have := hrl.out; omega) ?_; intro v6 w6 hown6 hb6 hg6 hat6))
      refine ⟨⟨i + 1, by omega, by go_num, ?_, hb6⟩, by simp [intOf]; omega⟩
      rw [rep_succ, ← hrr.out]; exact hown6
    · obtain rfl : i = 12 := by omega
      obtain ⟨Av, cv, rfl, hcv, -⟩ := Kd.R_reads hR
      have e12 : (l ++ List.replicate 12 mk).length = n + 12 := by rw [List.length_append, List.length_replicate, hn.out]
      rw [e12] at hR hcv ⊢
      have q0 : (0 : Int) ≤ (n : Int) := by omega
      have q1 : (n : Int) ≤ (cv : Int) := by omega
      have H := Lib.hid (And.intro hR (And.intro hb hcv))
      clear hR hb
      go_wp2
      go_ret
      exact ⟨_, _, rfl, H.out.2.2, H.out.1, H.out.2.1⟩
theorem neq_mk (W : World) : (binOp .neq 27 (.agg #[.string sM, .string sK]) (.agg #[.string sM, .string sK])).run Tryd.prog W = .ok (.bool false) W := by
  kernel_rfl
theorem equal_refl (l : List S27) (hl : l.length ≤ 1048576) : hawserlaw06_equal.f (2 * l.length + 2) l l = some true := by
  have h1 := plain_l0 l hl l.length 0 (l.length + 1) (by omega)
  have h2 := same_f l (l.map conv) (conv_p l).symm (by omega) l.length 0 (2 * l.length + 2) (by omega) (Nat.le_refl _)
  unfold hawserlaw06_equal.f hawserlaw06_plain.f hawserlaw06_same.f
  rw [show 2 * l.length + 2 = l.length + 1 + (l.length + 1) by omega]
  rw [show 2 * l.length + 2 = l.length + 1 + (l.length + 1) by omega] at h2
  have h3 : hawserlaw06_plain.l0 (l.length + 1 + (l.length + 1)) l [] 0 = some (l.map conv) := h1
  have h4 : hawserlaw06_same.l0 (l.length + 1 + (l.length + 1)) l (l.map conv) 0 = some true := h2
  rw [h3, Option.bind_some, h4, Option.bind_some]
set_option maxRecDepth 100000 in
set_option maxHeartbeats 8000000 in
theorem kept (w : World) (A' A : Option Addr) (c' c : Nat) (l : List S27) (hr' : Kd.C k27 w A' (l.length + 12) (l ++ List.replicate 12 mk)) (hc' : l.length + 12 ≤ c') (hr : Kd.C k27 w A l.length l) (hc : l.length ≤ c) (hl : l.length ≤ 1048576) (hm : Mark w) :
    Calls Tryd.prog 18 #[.slice A' l.length c', .slice A l.length c] w fun e w' => e = .returned (.bool true) ∧ Below w.heap.size w w' := by
  have hC0 : Kd.C k27 w A' l.length l := by
    have hz : Kd.C k27 w A' (l ++ List.replicate 12 mk).length (l ++ List.replicate 12 mk) := by rw [List.length_append, List.length_replicate]; exact hr'
    have h := Kd.C_take hz (m := l.length) (by rw [List.length_append]; omega)
    rw [List.take_left' rfl] at h
    exact h
  have heq := hawserlaw06_equal.calls (2 * l.length + 2) A' c' l A c l true w hC0 (by omega) hr hc (equal_refl l hl)
  have R := Lib.hid (And.intro hr' (And.intro hl hm))
  obtain ⟨n, hn⟩ : ∃ n, RowKit.Hid (n = l.length) := ⟨_, Lib.hid rfl⟩
  have hnl : n ≤ 1048576 := by rw [hn.out]; exact hl
  have hmx := Kd.C_max hr'
  rw [← hn.out] at heq hc' hmx ⊢
  clear hr' hr hc hl hm hC0
  have p0 : IntKind.i64.wrap ((n : Int) + 12) = ((n + 12 : Nat) : Int) := by rw [IntWalk.i64_in _ (by omega)]; omega
  have p1 : wrap64 ((n : Int) + 12) = ((n + 12 : Nat) : Int) := by rw [IntWalk.wrap64_in _ (by omega)]; omega
  have q0 : (0 : Int) ≤ ((n + 12 : Nat) : Int) := by omega
  have q1 : ((n + 12 : Nat) : Int) ≤ (c' : Int) := by omega
  go_enter Tryd.func18, Tryd.ntmps18
  go_upto_region 5 with (first
    | (go_at_call 31; refine heq.mono ?_; rintro e w2 ⟨rfl, hb2⟩))
  go_loopw [6] (fun v wr => ∃ i : Nat, i ≤ 12 ∧ v = .int .i64 i ∧ Below w.heap.size w wr) (fun v _ => 12 - (intOf v).toNat)
  case atStart => exact ⟨0, by omega, rfl, by first | exact hb2 | exact Below.refl _ _⟩
  case round =>
    obtain ⟨i, hi, rfl, hb⟩ := hrel
    by_cases hlt : i < 12
    · have u12 : (i : Int) < 12 := by omega
      obtain ⟨m0, m1⟩ := R.out.2.2.below hb
      have r0 : IntKind.i64.wrap ((n : Int) + (i : Int)) = ((n + i : Nat) : Int) := by rw [IntWalk.i64_in _ (by omega)]; omega
      have r1 : wrap64 ((n : Int) + (i : Int)) = ((n + i : Nat) : Int) := by rw [IntWalk.wrap64_in _ (by omega)]; omega
      have l16 : (0 : Int) ≤ ((n + i : Nat) : Int) := by omega
      have u16 : ((n + i : Nat) : Int) < ((n + 12 : Nat) : Int) := by omega
      obtain ⟨ad, eA, x0, x1⟩ := at_T27 (Kd.C_below R.out.1 hb) ((n + i : Nat) : Int) l16 (by rw [← hn.out]; omega)
      have er : rd_T27 (l ++ List.replicate 12 mk) ((n + i : Nat) : Int) = mk := by
        rw [rdR _ (n + i) (by rw [List.length_append, List.length_replicate, ← hn.out]; omega)]
        rw [List.getElem_append_right (by rw [← hn.out]; omega)]
        exact List.getElem_replicate ..
      rw [er] at x0 x1
      simp only [Int.toNat_natCast] at x0 x1
      have x0' : w.heap.size = w.heap.size := rfl
      replace x0 : wr.cell? (ad.add ((n + i) * 2)) = some (.string sM) := x0
      replace x1 : wr.cell? ⟨(ad.add ((n + i) * 2)).block, (ad.add ((n + i) * 2)).off + 1, none⟩ = some (.string sK) := x1
      have HB := Lib.hid hb
      have hne := neq_mk
      replace l16 := eq_true l16
      replace u16 := eq_true u16
      cases eA
      clear hb er x0'
      go_upto_region 7 with (fail)
      repeat (go_quiet (fail); try go_wp2)
      exact ⟨⟨i + 1, by omega, by go_num, by repeat (first | exact HB.out | apply pw_below_drewN)⟩, by simp [intOf]; omega⟩
    · obtain rfl : i = 12 := by omega
      go_wp2
      go_ret
      exact ⟨rfl, hb⟩
theorem bt {w w1 w2 : World} (h1 : Below w.heap.size w w1) (h2 : Below w1.heap.size w1 w2) : Below w.heap.size w w2 := h1.trans (h2.mono h1.size)
theorem drawn_below {w w' : World} (h : Drawn0 w w') : Below w.heap.size w w' := by
  obtain ⟨n, rfl⟩ := h
  exact pw_below_drewN (Below.refl _ _) n
section
open Go.Proofs.YtmjmjjhfficilaaDoor.Texts
theorem rows_of_maps {l : List S27} {m : List S28} (h1 : NF (l.map pR)) (h2 : NF (m.map pX)) (h : ∀ k, hasL (l.map pR) k = hasL (m.map pX) k) : l.map pR = m.map pX := unique _ _ h1 h2 h
theorem same_of {l : List S27} {m : List S28} (e : l.map pR = m.map pX) (hl : l.length ≤ 4294967296) : ∃ k, hawserlaw06_same.f k l m = some true :=
  ⟨2 * l.length + 2, same_f _ _ e hl _ 0 _ (by omega) (Nat.le_refl _)⟩
theorem meets_law (a b : List S27) (ha : a.length ≤ 1048576) (hb : b.length ≤ 1048576) : ∃ (k1 k2 k3 k4 k5 k6 k7 : Nat) (wM wD : List S28) (cv : Bool),
    hawserlaw06_plain.f k1 a = some (a.map conv) ∧ hawserlaw06_plain.f k2 b = some (b.map conv) ∧ span_Meet.f a b = some (meetF a b) ∧ span_Minus.f a b = some (minusF a b) ∧ span_Covers.f a b = some cv ∧
    hawserref06_Meet.f k3 (a.map conv) (b.map conv) = some wM ∧ hawserlaw06_same.f k4 (meetF a b) wM = some true ∧ hawserref06_Minus.f k5 (a.map conv) (b.map conv) = some wD ∧ hawserlaw06_same.f k6 (minusF a b) wD = some true ∧ hawserref06_Covers.f k7 (a.map conv) (b.map conv) = some cv := by
  have la : (a.map conv).length ≤ 1048576 := by simpa using ha
  have lb : (b.map conv).length ≤ 1048576 := by simpa using hb
  obtain ⟨k3, wM, h3, -, n3, s3⟩ := lay_f 1 (a.map conv) (b.map conv) la lb
  obtain ⟨k5, wD, h5, -, n5, s5⟩ := lay_f 2 (a.map conv) (b.map conv) la lb
  obtain ⟨k7, wC, h7, -, n7, s7⟩ := lay_f 2 (b.map conv) (a.map conv) lb la
  have wa1 : ∀ (u v : List S27) x, want 1 (u.map conv) (v.map conv) x = (hasL (u.map pR) x && hasL (v.map pR) x) := fun u v x => by unfold want; rw [if_pos rfl, conv_p, conv_p]
  have wa2 : ∀ (u v : List S27) x, want 2 (u.map conv) (v.map conv) x = (hasL (u.map pR) x && !hasL (v.map pR) x) := fun u v x => by unfold want; rw [if_neg (by decide), if_pos rfl, conv_p, conv_p]
  have eM := rows_of_maps (meetF_ok a b).1 n3 (fun k => by rw [(meetF_ok a b).2, s3, wa1])
  have eD := rows_of_maps (minusF_ok a b).1 n5 (fun k => by rw [(minusF_ok a b).2, s5, wa2])
  have eC := rows_of_maps (minusF_ok b a).1 n7 (fun k => by rw [(minusF_ok b a).2, s7, wa2])
  have lM := meetF_len a b
  have lD := minusF_len a b
  obtain ⟨k4, h4⟩ := same_of eM (by omega)
  obtain ⟨k6, h6⟩ := same_of eD (by omega)
  have lC : (minusF b a).length = wC.length := by have := congrArg List.length eC; simpa using this
  refine ⟨a.length + 1, b.length + 1, k3, k4, k5, k6, k7, wM, wD, (((minusF b a).length : Int) == 0), plain_l0 a ha a.length 0 0 (by omega), plain_l0 b hb b.length 0 0 (by omega), ?_, ?_, ?_, ?_, h4, ?_, h6, ?_⟩
  · unfold span_Meet.f; rw [if_pos ⟨by omega, by omega⟩]
  · unfold span_Minus.f; rw [if_pos ⟨by omega, by omega⟩]
  · unfold span_Covers.f span_Minus.f; rw [if_pos ⟨by omega, by omega⟩]; rfl
  · unfold hawserref06_Meet.f; rw [h3]; rfl
  · unfold hawserref06_Minus.f; rw [h5]; rfl
  · unfold hawserref06_Covers.f; rw [h7, Option.bind_some, lC]
end
theorem conv_len (l : List S27) : (l.map conv).length = l.length := List.length_map ..
set_option maxRecDepth 100000 in
set_option maxHeartbeats 8000000 in
theorem meets_walk (w : World) (A B : Option Addr) (c d : Nat) (a b : List S27) (hra : Kd.C k27 w A a.length a) (hca : a.length ≤ c) (hrb : Kd.C k27 w B b.length b) (hcb : b.length ≤ d) (la : a.length ≤ 1048576) (lb : b.length ≤ 1048576) (hm : Mark w) :
    Calls Tryd.prog 5 #[.slice A a.length c, .slice B b.length d] w fun e w' => e = .returned (.bool true) ∧ Below w.heap.size w w' := by
  obtain ⟨k1, k2, k3, k4, k5, k6, k7, wM, wD, cv, e1, e2, e3, e4, e5, e6, e7, e8, e9, e10⟩ := meets_law a b la lb
  obtain ⟨mM, hmM⟩ : ∃ mM, RowKit.Hid (mM = meetF a b) := ⟨_, Lib.hid rfl⟩
  obtain ⟨mD, hmD⟩ : ∃ mD, RowKit.Hid (mD = minusF a b) := ⟨_, Lib.hid rfl⟩
  obtain ⟨pa, hpa⟩ : ∃ pa, RowKit.Hid (pa = a.map conv) := ⟨_, Lib.hid rfl⟩
  obtain ⟨pb, hpb⟩ : ∃ pb, RowKit.Hid (pb = b.map conv) := ⟨_, Lib.hid rfl⟩
  rw [← hmM.out] at e3 e7
  rw [← hmD.out] at e4 e9
  rw [← hpa.out] at e1 e6 e8 e10
  rw [← hpb.out] at e2 e6 e8 e10
  have room : ∀ (l : List S27) (A : Option Addr) (c : Nat), l.length ≤ c → l.length ≤ 1048576 → ∀ W, Kd.C k27 W A l.length l → Mark W → Calls Tryd.prog 12 #[.slice A l.length c] W fun e w' => ∃ A' c', e = .returned (.slice A' l.length c') ∧ l.length + 12 ≤ c' ∧ Kd.C k27 w' A' (l.length + 12) (l ++ List.replicate 12 mk) ∧ Kd.C k27 w' A' l.length l ∧ Below W.heap.size W w' := by
    intro l A c hc hl W hC hM
    refine (roomy W A c l hC hc hl hM).mono ?_
    rintro e w' ⟨A', c', rfl, h12, hR, hb⟩
    have hC1 : Kd.C k27 w' A' (l.length + 12) (l ++ List.replicate 12 mk) := by
      have h := (Kd.R_reads' hR).2.2
      rw [List.length_append, List.length_replicate] at h
      exact h
    have hC0 : Kd.C k27 w' A' l.length l := by
      have hz : Kd.C k27 w' A' (l ++ List.replicate 12 mk).length (l ++ List.replicate 12 mk) := by rw [List.length_append, List.length_replicate]; exact hC1
      have h := Kd.C_take hz (m := l.length) (by rw [List.length_append]; omega)
      rw [List.take_left' rfl] at h
      exact h
    exact ⟨A', c', rfl, h12, hC1, hC0, hb⟩
  have room1 := room a A c hca la
  have room2 := room b B d hcb lb
  clear room
  have plain1 := fun W A c h hc => hawserlaw06_plain.calls k1 A c a pa W h hc e1
  have plain2 := fun W A c h hc => hawserlaw06_plain.calls k2 A c b pb W h hc e2
  have meet_ := fun W A c h hc A' c' h' hc' => span_Meet.calls A c a A' c' b mM W h hc h' hc' e3
  have minus_ := fun W A c h hc A' c' h' hc' => span_Minus.calls A c a A' c' b mD W h hc h' hc' e4
  have cov_ := fun W A c h hc A' c' h' hc' => span_Covers.calls A c a A' c' b cv W h hc h' hc' e5
  have rmeet := fun W A c h hc A' c' h' hc' => hawserref06_Meet.calls k3 A c pa A' c' pb wM W h hc h' hc' e6
  have same1 := fun W A c h hc A' c' h' hc' => (hawserlaw06_same.calls k4 A c mM A' c' wM true W h hc h' hc' e7).mono (fun _ _ (h : _ ∧ _) => And.intro h.1 (drawn_below h.2))
  have rminus := fun W A c h hc A' c' h' hc' => hawserref06_Minus.calls k5 A c pa A' c' pb wD W h hc h' hc' e8
  have same2 := fun W A c h hc A' c' h' hc' => (hawserlaw06_same.calls k6 A c mD A' c' wD true W h hc h' hc' e9).mono (fun _ _ (h : _ ∧ _) => And.intro h.1 (drawn_below h.2))
  have rcov := fun W A c h hc A' c' h' hc' => hawserref06_Covers.calls k7 A c pa A' c' pb cv W h hc h' hc' e10
  have kept1 := fun W A1 c1 h12 hc12 h hM => kept W A1 A c1 c a h12 hc12 h hca la hM
  have kept2 := fun W A1 c1 h12 hc12 h hM => kept W A1 B c1 d b h12 hc12 h hcb lb hM
  have H := Lib.hid (And.intro hra (And.intro hrb hm))
  have hc := Lib.hid hca
  have hd := Lib.hid hcb
  clear e1 e2 e3 e4 e5 e6 e7 e8 e9 e10 hra hrb hm la lb hca hcb
  go_enter Tryd.func5, Tryd.ntmps5
  go_wp2_with (first
    | (go_at_call 12; (with_reducible refine (room1 w H.out.1 H.out.2.2).mono ?_); rintro e w1 ⟨A1, c1, rfl, hc1, hC1, hD1, hb1⟩; have F1 := Lib.hid (And.intro hc1 (And.intro hC1 hD1)); clear hc1 hC1 hD1; have b1 := Lib.hid hb1; clear hb1)
    | (go_at_call 12; (with_reducible refine (room2 w1 (Kd.C_below H.out.2.1 b1.out) (Mark.below H.out.2.2 b1.out)).mono ?_); rintro e w2 ⟨A2, c2, rfl, hc2, hC2, hD2, hb2⟩; have F2 := Lib.hid (And.intro hc2 (And.intro hC2 hD2)); clear hc2 hC2 hD2; have b2 := Lib.hid hb2; clear hb2)
    | (go_at_call 15; (with_reducible refine (plain1 w2 A c (Kd.C_below H.out.1 (bt b1.out b2.out)) hc.out).mono ?_); rintro e w3 ⟨v3, rfl, hR3, hb3⟩; obtain ⟨A3, c3, rfl, hc3, hC3⟩ := Kd.R_reads hR3; have F3 := Lib.hid (And.intro hC3 hc3); clear hR3 hc3 hC3; have b3 := Lib.hid hb3; clear hb3)
    | (go_at_call 15; (with_reducible refine (plain2 w3 B d (Kd.C_below H.out.2.1 (bt (bt b1.out b2.out) b3.out)) hd.out).mono ?_); rintro e w4 ⟨v4, rfl, hR4, hb4⟩; obtain ⟨A4, c4, rfl, hc4, hC4⟩ := Kd.R_reads hR4; have F4 := Lib.hid (And.intro hC4 hc4); clear hR4 hc4 hC4; have b4 := Lib.hid hb4; clear hb4)
    | (go_at_call 19; (with_reducible refine (meet_ w4 A1 c1 (Kd.C_below F1.out.2.2 (bt (bt b2.out b3.out) b4.out)) (by have := F1.out.1; omega) A2 c2 (Kd.C_below F2.out.2.2 (bt b3.out b4.out)) (by have := F2.out.1; omega)).mono ?_); rintro e w5 ⟨v5, rfl, hR5, hb5⟩; obtain ⟨A5, c5, rfl, hc5, hC5⟩ := Kd.R_reads hR5; have F5 := Lib.hid (And.intro hC5 hc5); clear hR5 hc5 hC5; have b5 := Lib.hid hb5; clear hb5)
    | (go_at_call 20; (with_reducible refine (minus_ w5 A1 c1 (Kd.C_below F1.out.2.2 (bt (bt (bt b2.out b3.out) b4.out) b5.out)) (by have := F1.out.1; omega) A2 c2 (Kd.C_below F2.out.2.2 (bt (bt b3.out b4.out) b5.out)) (by have := F2.out.1; omega)).mono ?_); rintro e w6 ⟨v6, rfl, hR6, hb6⟩; obtain ⟨A6, c6, rfl, hc6, hC6⟩ := Kd.R_reads hR6; have F6 := Lib.hid (And.intro hC6 hc6); clear hR6 hc6 hC6; have b6 := Lib.hid hb6; clear hb6)
    | (go_at_call 21; (with_reducible refine (cov_ w6 A1 c1 (Kd.C_below F1.out.2.2 (bt (bt (bt (bt b2.out b3.out) b4.out) b5.out) b6.out)) (by have := F1.out.1; omega) A2 c2 (Kd.C_below F2.out.2.2 (bt (bt (bt b3.out b4.out) b5.out) b6.out)) (by have := F2.out.1; omega)).mono ?_); rintro e w7 ⟨rfl, hb7⟩; have b7 := Lib.hid hb7; clear hb7)
    | (go_at_call 23; (with_reducible refine (rmeet w7 A3 c3 (Kd.C_below F3.out.1 (bt (bt (bt b4.out b5.out) b6.out) b7.out)) F3.out.2 A4 c4 (Kd.C_below F4.out.1 (bt (bt b5.out b6.out) b7.out)) F4.out.2).mono ?_); rintro e w8 ⟨v8, rfl, hR8, hb8⟩; obtain ⟨A8, c8, rfl, hc8, hC8⟩ := Kd.R_reads hR8; have F8 := Lib.hid (And.intro hC8 hc8); clear hR8 hc8 hC8; have b8 := Lib.hid hb8; clear hb8)
    | (go_at_call 22; (with_reducible refine (same1 w8 A5 c5 (Kd.C_below F5.out.1 (bt (bt b6.out b7.out) b8.out)) F5.out.2 A8 c8 F8.out.1 F8.out.2).mono ?_); rintro e w9 ⟨rfl, hb9⟩; have b9 := Lib.hid hb9; clear hb9)
    | (go_at_call 24; (with_reducible refine (rminus w9 A3 c3 (Kd.C_below F3.out.1 (bt (bt (bt (bt (bt b4.out b5.out) b6.out) b7.out) b8.out) b9.out)) F3.out.2 A4 c4 (Kd.C_below F4.out.1 (bt (bt (bt (bt b5.out b6.out) b7.out) b8.out) b9.out)) F4.out.2).mono ?_); rintro e w10 ⟨v10, rfl, hR10, hb10⟩; obtain ⟨A10, c10, rfl, hc10, hC10⟩ := Kd.R_reads hR10; have F10 := Lib.hid (And.intro hC10 hc10); clear hR10 hc10 hC10; have b10 := Lib.hid hb10; clear hb10)
    | (go_at_call 22; (with_reducible refine (same2 w10 A6 c6 (Kd.C_below F6.out.1 (bt (bt (bt b7.out b8.out) b9.out) b10.out)) F6.out.2 A10 c10 F10.out.1 F10.out.2).mono ?_); rintro e w11 ⟨rfl, hb11⟩; have b11 := Lib.hid hb11; clear hb11)
    | (go_at_call 25; (with_reducible refine (rcov w11 A3 c3 (Kd.C_below F3.out.1 (bt (bt (bt (bt (bt (bt (bt b4.out b5.out) b6.out) b7.out) b8.out) b9.out) b10.out) b11.out)) F3.out.2 A4 c4 (Kd.C_below F4.out.1 (bt (bt (bt (bt (bt (bt b5.out b6.out) b7.out) b8.out) b9.out) b10.out) b11.out)) F4.out.2).mono ?_); rintro e w12 ⟨rfl, hb12⟩; have b12 := Lib.hid hb12; clear hb12)
    | (go_at_call 18; (with_reducible refine (kept1 w12 A1 c1 (Kd.C_below F1.out.2.1 (bt (bt (bt (bt (bt (bt (bt (bt (bt (bt b2.out b3.out) b4.out) b5.out) b6.out) b7.out) b8.out) b9.out) b10.out) b11.out) b12.out)) F1.out.1 (Kd.C_below H.out.1 (bt (bt (bt (bt (bt (bt (bt (bt (bt (bt (bt b1.out b2.out) b3.out) b4.out) b5.out) b6.out) b7.out) b8.out) b9.out) b10.out) b11.out) b12.out)) (Mark.below H.out.2.2 (bt (bt (bt (bt (bt (bt (bt (bt (bt (bt (bt b1.out b2.out) b3.out) b4.out) b5.out) b6.out) b7.out) b8.out) b9.out) b10.out) b11.out) b12.out))).mono ?_); rintro e w13 ⟨rfl, hb13⟩; have b13 := Lib.hid hb13; clear hb13)
    | (go_at_call 18; (with_reducible refine (kept2 w13 A2 c2 (Kd.C_below F2.out.2.1 (bt (bt (bt (bt (bt (bt (bt (bt (bt (bt b3.out b4.out) b5.out) b6.out) b7.out) b8.out) b9.out) b10.out) b11.out) b12.out) b13.out)) F2.out.1 (Kd.C_below H.out.2.1 (bt (bt (bt (bt (bt (bt (bt (bt (bt (bt (bt (bt b1.out b2.out) b3.out) b4.out) b5.out) b6.out) b7.out) b8.out) b9.out) b10.out) b11.out) b12.out) b13.out)) (Mark.below H.out.2.2 (bt (bt (bt (bt (bt (bt (bt (bt (bt (bt (bt (bt b1.out b2.out) b3.out) b4.out) b5.out) b6.out) b7.out) b8.out) b9.out) b10.out) b11.out) b12.out) b13.out))).mono ?_); rintro e w14 ⟨rfl, hb14⟩; have b14 := Lib.hid hb14; clear hb14))
  go_ret
  exact ⟨rfl, (bt (bt (bt (bt (bt (bt (bt (bt (bt (bt (bt (bt (bt b1.out b2.out) b3.out) b4.out) b5.out) b6.out) b7.out) b8.out) b9.out) b10.out) b11.out) b12.out) b13.out) b14.out)⟩
end Go.Proofs.YtmjmjjhfficilaaDoor.PSpanMeets

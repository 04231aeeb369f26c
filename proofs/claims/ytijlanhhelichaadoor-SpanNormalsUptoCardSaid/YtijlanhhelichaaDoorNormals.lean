/- What is proved: the program's Normal and the document's answer the same ranges; the conditions stand in the theorems. -/
import Derived.Test.YtijlanhhelichaaDoorPSpanNormalsx3
import Derived.Test.YtijlanhhelichaaDoorPSpanNormalsx5
import Derived.Test.YtijlanhhelichaaDoorPSpanNormalsx6
import Derived.Test.YtijlanhhelichaaDoorTexts
namespace Go.Proofs.YtijlanhhelichaaDoor.Normals
open Go.RowKit Go.Proofs.YtijlanhhelichaaDoor.PSpanNormals Go.Proofs.YtijlanhhelichaaDoor.Texts Go.Proofs.YtijlanhhelichaaDoorW.PrintWords Go.Proofs.YtijlanhhelichaaDoorW.PrintLast
set_option linter.unusedVariables false
set_option linter.unusedSimpArgs false
def p28 (x : S28) : R := (x.f0.toList, x.f1.toList)
def p31 (x : S31) : R := (x.f0.toList, x.f1.toList)
theorem rd28 (l : List S28) (i : Nat) (h : i < l.length) : rd_T28 l (i : Int) = l[i] := by unfold rd_T28; simp [List.getD, List.getElem?_eq_getElem h]
theorem rd31 (l : List S31) (i : Nat) (h : i < l.length) : rd_T31 l (i : Int) = l[i] := by unfold rd_T31; simp [List.getD, List.getElem?_eq_getElem h]
theorem rdB (l : List ByteArray) (i : Nat) (h : i < l.length) : rdOf ByteArray.empty l (i : Int) = l[i] := by unfold rdOf; simp [List.getD, List.getElem?_eq_getElem h]
theorem w_up (i : Nat) (h : i ≤ 4294967296) : wrap64 ((i : Int) + 1) = ((i + 1 : Nat) : Int) := IntWalk.wrap64_in _ (by omega)
theorem w_down (i : Nat) (h0 : 0 < i) (h : i ≤ 4294967296) : wrap64 ((i : Int) - 1) = ((i - 1 : Nat) : Int) := by rw [IntWalk.wrap64_in _ (by omega)]; omega
/-! ### the program -/
theorem step_p (out : List S28) (r : S28) : (stepR out r).map p28 = stepP (out.map p28) (p28 r) := by
  rcases List.eq_nil_or_concat out with rfl | ⟨o, l, h⟩
  · rfl
  · rw [List.concat_eq_append] at h
    subst h
    rw [step_snoc, List.map_append, List.map_cons, List.map_nil, stepP_snoc]
    show List.map p28 (if l.f1.toList = [] then _ else if lessB l.f1.toList r.f0.toList = true then _ else if r.f1.toList = [] then _ else if lessB l.f1.toList r.f1.toList = true then _ else _) = if l.f1.toList = [] then _ else if lessB l.f1.toList r.f0.toList = true then _ else if r.f1.toList = [] then _ else if lessB l.f1.toList r.f1.toList = true then _ else _
    repeat' split
    all_goals simp [p28]
theorem fold_p (l : List S28) : ∀ out : List S28, (l.foldl stepR out).map p28 = (l.map p28).foldl stepP (out.map p28) := by
  induction l with
  | nil => intro out; rfl
  | cons a l ih => intro out; rw [List.foldl_cons, ih, step_p]; rfl
theorem full_ok {x : S28} (h : full x = true) : ok (p28 x) := by
  unfold full emptyR at h
  unfold ok p28
  by_cases q : x.f1.toList = []
  · exact .inl q
  · rw [if_neg q] at h
    simp at h
    exact .inr h
theorem empty_has {x : S28} (h : full x = false) (k : T) : has (p28 x) k = false := by
  unfold full emptyR at h
  by_cases q : x.f1.toList = []
  · rw [if_pos q] at h; cases h
  · rw [if_neg q] at h
    simp at h
    cases e : has (p28 x) k with
    | false => rfl
    | true =>
      rw [has_iff] at e
      rcases e.2 with e2 | e2
      · exact absurd e2 q
      · have := le_lt e.1 e2
        rw [show lt (p28 x).1 (p28 x).2 = Op.bytesLess x.f0.toList x.f1.toList from rfl, h] at this
        cases this
theorem hasL_perm {l m : List R} (h : l.Perm m) (k : T) : hasL l k = hasL m k := by
  apply bool_ext
  rw [hasL_iff, hasL_iff]
  constructor
  · rintro ⟨x, hx, e⟩; exact ⟨x, h.mem_iff.1 hx, e⟩
  · rintro ⟨x, hx, e⟩; exact ⟨x, h.mem_iff.2 hx, e⟩
theorem hasL_filter (k : T) : ∀ l : List S28, hasL ((l.filter full).map p28) k = hasL (l.map p28) k
  | [] => rfl
  | x :: l => by
    have ih := hasL_filter k l
    rw [List.filter_cons]
    cases e : full x with
    | true => rw [if_pos rfl, List.map_cons, List.map_cons, hasL_cons, hasL_cons, ih]
    | false => rw [if_neg Bool.false_ne_true, List.map_cons, hasL_cons, empty_has e, Bool.false_or, ih]
theorem merged_ok (l : List S28) : NF (((sortR (l.filter full)).foldl stepR []).map p28) ∧ ∀ k, hasL (((sortR (l.filter full)).foldl stepR []).map p28) k = hasL (l.map p28) k := by
  obtain ⟨hp, hs⟩ := sortR_both (l.filter full)
  rw [fold_p]
  have hsrt : ((sortR (l.filter full)).map p28).Pairwise fun a b => lt b.1 a.1 = false := by
    rw [List.pairwise_iff_getElem]
    intro i j hi hj hij
    have hi' : i < (sortR (l.filter full)).length := by simpa using hi
    have hj' : j < (sortR (l.filter full)).length := by simpa using hj
    have h := hs i j hij (by rw [← hp.length_eq]; exact hj')
    have e1 : (sortR (l.filter full)).toArray[i]! = (sortR (l.filter full))[i] := by simp [hi']
    have e2 : (sortR (l.filter full)).toArray[j]! = (sortR (l.filter full))[j] := by simp [hj']
    rw [e1, e2] at h
    simp only [List.getElem_map]
    show Op.bytesLess ((sortR (l.filter full))[j]).f0.toList ((sortR (l.filter full))[i]).f0.toList = false
    rw [ByteArray.toList_eq, ByteArray.toList_eq]
    exact h
  have hok : ∀ r ∈ (sortR (l.filter full)).map p28, ok r := by
    intro r hr
    obtain ⟨x, hx, rfl⟩ := List.mem_map.1 hr
    exact full_ok (List.mem_filter.1 (hp.mem_iff.1 hx)).2
  obtain ⟨a, b⟩ := fold_ok _ hsrt hok [] ⟨fun x hx => (by cases hx), List.Pairwise.nil⟩ (fun o l e => by simp at e)
  refine ⟨a, fun k => ?_⟩
  rw [show ([] : List S28).map p28 = [] from rfl, b, hasL_perm (hp.map p28)]
  show (false || _) = _
  rw [Bool.false_or]
  exact hasL_filter k l
/-! ### the document -/
theorem has_ref (x : S31) (k : ByteArray) : hawserref06_Has.f x.f0 x.f1 k = some (has (p31 x) k.toList) := by
  unfold hawserref06_Has.f has p31
  cases a : Op.bytesLess k.toList x.f0.toList with
  | true => simp [a]
  | false =>
    rw [if_neg Bool.false_ne_true]
    by_cases q : x.f1.toList = []
    · rw [if_pos q]; simp [a, q]
    · rw [if_neg q]; simp [a, q]
theorem in_ref (l : List S31) (key : ByteArray) (hl : l.length ≤ 4294967296) : ∀ (m i k : Nat), i + m = l.length → hawserref06_in.l0 (m + 1 + k) l key (i : Int) = some (hasL ((l.drop i).map p31) key.toList) := by
  intro m
  induction m with
  | zero =>
    intro i k hi
    obtain rfl : i = l.length := by omega
    rw [show 0 + 1 + k = k + 1 by omega, hawserref06_in.l0, if_neg (by omega), List.drop_length]
    rfl
  | succ m ih =>
    intro i k hi
    have hlt : i < l.length := by omega
    have h := ih (i + 1) k (by omega)
    rw [show m + 1 + 1 + k = (m + 1 + k) + 1 by omega, hawserref06_in.l0, if_pos (by omega), if_pos (by omega), rd31 l i hlt, has_ref, Option.bind_some, List.drop_eq_getElem_cons hlt, List.map_cons, hasL_cons]
    cases e : has (p31 l[i]) key.toList with
    | true => rw [if_pos rfl]; rfl
    | false => rw [if_neg Bool.false_ne_true, w_up i (by omega), h, Bool.false_or]
theorem in_f (l : List S31) (key : ByteArray) (hl : l.length ≤ 4294967296) (k : Nat) (hk : l.length + 1 ≤ k) : hawserref06_in.f k l key = some (hasL (l.map p31) key.toList) := by
  obtain ⟨q, rfl⟩ : ∃ q, k = l.length + 1 + q := ⟨k - (l.length + 1), by omega⟩
  have h := in_ref l key hl l.length 0 q (by omega)
  unfold hawserref06_in.f
  rw [List.drop_zero] at h
  exact h
/-- What is wanted of two lists. -/
def want (what : Int) (a b : List S31) (k : T) : Bool := if what = 1 then hasL (a.map p31) k && hasL (b.map p31) k else if what = 2 then hasL (a.map p31) k && !hasL (b.map p31) k else hasL (a.map p31) k || hasL (b.map p31) k
theorem wanted_f (what : Int) (a b : List S31) (key : ByteArray) (ha : a.length ≤ 4294967296) (hb : b.length ≤ 4294967296) (k : Nat) (hk : a.length + b.length + 1 ≤ k) : hawserref06_wanted.f k what a b key = some (want what a b key.toList) := by
  unfold hawserref06_wanted.f want
  rw [in_f a key ha k (by omega), Option.bind_some, in_f b key hb k (by omega), Option.bind_some]
  generalize hasL (a.map p31) key.toList = x
  generalize hasL (b.map p31) key.toList = y
  by_cases q1 : what = 1
  · rw [if_pos q1, if_pos q1]; cases x <;> rfl
  · rw [if_neg q1, if_neg q1]
    by_cases q2 : what = 2
    · rw [if_pos q2, if_pos q2]; cases x <;> rfl
    · rw [if_neg q2, if_neg q2]; cases x <;> rfl
def ends (x : S31) : List ByteArray := [x.f0, x.f1]
theorem marks_l1 (b : List S31) (hb : b.length ≤ 4294967296) : ∀ (m i k : Nat) (out : List ByteArray), i + m = b.length → out.length + 2 * m < 8796093022208 → hawserref06_marks.l1 (m + 1 + k) b out (i : Int) = (sort_Strings.f (out ++ (b.drop i).flatMap ends)).bind fun t => hawserref06_marks.l2 k t [] 0 := by
  intro m
  induction m with
  | zero =>
    intro i k out hi ho
    obtain rfl : i = b.length := by omega
    rw [show 0 + 1 + k = k + 1 by omega, hawserref06_marks.l1, if_neg (by omega), List.drop_length, List.flatMap_nil, List.append_nil]
  | succ m ih =>
    intro i k out hi ho
    have hlt : i < b.length := by omega
    have h := ih (i + 1) k (out ++ ends b[i]) (by omega) (by simp [ends]; omega)
    rw [show m + 1 + 1 + k = (m + 1 + k) + 1 by omega, hawserref06_marks.l1, if_pos (by omega), if_pos (by omega), Option.bind_some, if_pos (by simp; omega), rd31 b i hlt, w_up i (by omega), List.drop_eq_getElem_cons hlt, List.flatMap_cons, ← List.append_assoc]
    exact h
theorem marks_l0 (a b : List S31) (ha : a.length ≤ 4294967296) : ∀ (m i k : Nat) (out : List ByteArray), i + m = a.length → out.length + 2 * m < 8796093022208 → hawserref06_marks.l0 (m + 1 + k) a b out (i : Int) = hawserref06_marks.l1 k b (out ++ (a.drop i).flatMap ends) 0 := by
  intro m
  induction m with
  | zero =>
    intro i k out hi ho
    obtain rfl : i = a.length := by omega
    rw [show 0 + 1 + k = k + 1 by omega, hawserref06_marks.l0, if_neg (by omega), List.drop_length, List.flatMap_nil, List.append_nil]
  | succ m ih =>
    intro i k out hi ho
    have hlt : i < a.length := by omega
    have h := ih (i + 1) k (out ++ ends a[i]) (by omega) (by simp [ends]; omega)
    rw [show m + 1 + 1 + k = (m + 1 + k) + 1 by omega, hawserref06_marks.l0, if_pos (by omega), if_pos (by omega), Option.bind_some, if_pos (by simp; omega), rd31 a i hlt, w_up i (by omega), List.drop_eq_getElem_cons hlt, List.flatMap_cons, ← List.append_assoc]
    exact h
/-- Each once. -/
def ded (L : List ByteArray) : Nat → List ByteArray
  | 0 => []
  | i + 1 => if i = 0 then ded L i ++ [L.getD i ByteArray.empty] else if (L.getD i ByteArray.empty).toList = (L.getD (i - 1) ByteArray.empty).toList then ded L i else ded L i ++ [L.getD i ByteArray.empty]
theorem ded_len (L : List ByteArray) : ∀ i, (ded L i).length ≤ i
  | 0 => by simp [ded]
  | i + 1 => by
    have := ded_len L i
    rw [ded]
    repeat' split
    all_goals simp
    all_goals omega
theorem marks_l2 (L : List ByteArray) (hL : L.length ≤ 4294967296) : ∀ (m i k : Nat), i + m = L.length → hawserref06_marks.l2 (m + 1 + k) L (ded L i) (i : Int) = some (ded L L.length) := by
  intro m
  induction m with
  | zero =>
    intro i k hi
    obtain rfl : i = L.length := by omega
    rw [show 0 + 1 + k = k + 1 by omega, hawserref06_marks.l2, if_neg (by omega)]
  | succ m ih =>
    intro i k hi
    have hlt : i < L.length := by omega
    have hd := ded_len L i
    have h := ih (i + 1) k (by omega)
    have g1 : L.getD i ByteArray.empty = L[i] := by simp [List.getD, List.getElem?_eq_getElem hlt]
    rw [show m + 1 + 1 + k = (m + 1 + k) + 1 by omega, hawserref06_marks.l2, if_pos (by omega), rdB L i hlt]
    rw [ded] at h
    by_cases q : i = 0
    · rw [if_pos q, g1] at h
      rw [if_pos (by omega), if_pos (by omega), if_pos (by omega), w_up i (by omega)]
      exact h
    · rw [if_neg q] at h
      have hlt2 : i - 1 < L.length := by omega
      have g2 : L.getD (i - 1) ByteArray.empty = L[i - 1] := by simp [List.getD, List.getElem?_eq_getElem hlt2]
      rw [g1, g2] at h
      rw [if_neg (by omega), if_pos (by omega), w_down i (by omega) (by omega), if_pos (by omega), if_pos (by omega), rdB L (i - 1) hlt2, w_up i (by omega)]
      by_cases e : L[i].toList = L[i - 1].toList
      · rw [if_pos e] at h ⊢; exact h
      · rw [if_neg e] at h
        rw [if_neg e, if_pos (by omega)]
        exact h
theorem ded_ok (L : List ByteArray) (hs : L.Pairwise fun a b => lt b.toList a.toList = false) : ∀ i, i ≤ L.length → ((ded L i).map ByteArray.toList).Pairwise (fun a b => lt a b = true) ∧ (∀ j (hj : j < L.length), j < i → L[j].toList ∈ (ded L i).map ByteArray.toList) ∧ (∀ x ∈ ded L i, ∀ (hi : i - 1 < L.length), lt (L[i - 1]).toList x.toList = false) ∧ ∀ x ∈ ded L i, x ∈ L
  | 0, _ => ⟨List.Pairwise.nil, fun j _ h => (by omega), fun x hx => (by cases hx), fun x hx => (by cases hx)⟩
  | i + 1, hi => by
    obtain ⟨a, b, c, d⟩ := ded_ok L hs i (by omega)
    have hlt : i < L.length := by omega
    have g1 : L.getD i ByteArray.empty = L[i] := by simp [List.getD, List.getElem?_eq_getElem hlt]
    rw [ded]
    by_cases q : i = 0
    · subst q
      rw [if_pos rfl, g1]
      refine ⟨by simp [ded], fun j hj hji => ?_, fun x hx hi2 => ?_, fun x hx => ?_⟩
      · obtain rfl : j = 0 := by omega
        simp [ded]
      · simp [ded] at hx
        subst hx
        exact irrefl _
      · simp [ded] at hx
        subst hx
        exact List.getElem_mem _
    · rw [if_neg q]
      have hlt2 : i - 1 < L.length := by omega
      have g2 : L.getD (i - 1) ByteArray.empty = L[i - 1] := by simp [List.getD, List.getElem?_eq_getElem hlt2]
      rw [g1, g2]
      have hle : lt L[i].toList L[i - 1].toList = false := (List.pairwise_iff_getElem.1 hs) (i - 1) i hlt2 hlt (by omega)
      by_cases e : L[i].toList = L[i - 1].toList
      · rw [if_pos e]
        refine ⟨a, fun j hj hji => ?_, fun x hx hi2 => ?_, d⟩
        · by_cases ej : j = i
          · subst ej
            rw [e]
            exact b (j - 1) hlt2 (by omega)
          · exact b j hj (by omega)
        · have h := c x hx hlt2
          simp only [Nat.add_sub_cancel]
          rw [e]; exact h
      · rw [if_neg e]
        have hlt3 : lt L[i - 1].toList L[i].toList = true := by
          cases e2 : lt L[i - 1].toList L[i].toList with
          | true => rfl
          | false => exact absurd (eq_of_not hle e2) e
        refine ⟨?_, fun j hj hji => ?_, fun x hx hi2 => ?_, fun x hx => ?_⟩
        · rw [List.map_append, List.pairwise_append]
          refine ⟨a, by simp, fun x hx y hy => ?_⟩
          obtain ⟨x', hx', rfl⟩ := List.mem_map.1 hx
          simp at hy
          subst hy
          exact le_lt (c x' hx' hlt2) hlt3
        · rw [List.map_append]
          by_cases ej : j = i
          · subst ej
            exact List.mem_append_right _ (by simp)
          · exact List.mem_append_left _ (b j hj (by omega))
        · simp only [Nat.add_sub_cancel]
          rcases List.mem_append.1 hx with hx | hx
          · exact asymm (le_lt (c x hx hlt2) hlt3)
          · rw [List.mem_singleton.1 hx]; exact irrefl _
        · rcases List.mem_append.1 hx with hx | hx
          · exact d x hx
          · rw [List.mem_singleton.1 hx]; exact List.getElem_mem _
theorem list_lt : ∀ a b : List UInt8, a < b ↔ lt a b = true
  | [], [] => by simp [lt_nil]
  | [], y :: b => by simp [nil_lt]
  | x :: a, [] => by simp [lt_nil]
  | x :: a, y :: b => by
    rw [List.cons_lt_cons_iff, lt_cons, list_lt a b, UInt8.lt_iff_toNat_lt, ← UInt8.toNat_inj]
theorem sortB_ok (l : List ByteArray) : (sortB l).Pairwise (fun a b => lt b.toList a.toList = false) ∧ ∀ x, x ∈ sortB l ↔ x ∈ l := by
  have hle : ∀ a b : List UInt8, decide (a ≤ b) = !lt b a := by
    intro a b
    cases e : lt b a with
    | true => exact decide_eq_false (fun h => (List.not_lt.2 h) ((list_lt b a).2 e))
    | false => exact decide_eq_true (List.not_lt.1 (fun h => by rw [(list_lt b a).1 h] at e; cases e))
  constructor
  · unfold sortB
    rw [List.pairwise_map]
    have h := List.pairwise_mergeSort (le := fun x y : List UInt8 => decide (x ≤ y)) (fun a b c h1 h2 => by
      rw [hle] at *
      simp at h1 h2 ⊢
      exact Texts.le_trans h1 h2) (fun a b => by
      rw [hle, hle]
      cases e : lt b a with
      | false => rfl
      | true => rw [asymm e]; rfl) (l.map keyB)
    refine h.imp (fun {a b} h => ?_)
    rw [hle] at h
    simp at h
    rw [ByteArray.toList_eq, ByteArray.toList_eq]
    simpa [mkS] using h
  · intro x
    unfold sortB
    rw [List.mem_map]
    constructor
    · rintro ⟨s, hs, rfl⟩
      obtain ⟨y, hy, rfl⟩ := List.mem_map.1 ((List.mergeSort_perm _ _).mem_iff.1 hs)
      rw [mkS_key]; exact hy
    · intro hx
      exact ⟨keyB x, (List.mergeSort_perm _ _).mem_iff.2 (List.mem_map_of_mem hx), mkS_key x⟩
/-- The document's marks: rising, from the least text on, every end among them. -/
theorem marks_f (a b : List S31) (ha : a.length ≤ 1048576) (hb : b.length ≤ 1048576) (k : Nat) (hk : 3 * a.length + 3 * b.length + 8 ≤ k) : ∃ M rest : List ByteArray, hawserref06_marks.f k a b = some M ∧ M.length ≤ 2 * a.length + 2 * b.length + 1 ∧ M.map ByteArray.toList = [] :: rest.map ByteArray.toList ∧ (M.map ByteArray.toList).Pairwise (fun a b => lt a b = true) ∧ ∀ x, (x ∈ a ∨ x ∈ b) → x.f0.toList ∈ M.map ByteArray.toList ∧ x.f1.toList ∈ M.map ByteArray.toList := by
  have fl : ∀ l : List S31, (l.flatMap ends).length = 2 * l.length := by
    intro l
    induction l with
    | nil => rfl
    | cons x l ih => rw [List.flatMap_cons, List.length_append, ih]; simp [ends]; omega
  obtain ⟨e, he⟩ : ∃ e, e = (⟨#[]⟩ : ByteArray) := ⟨_, rfl⟩
  obtain ⟨L0, hL0⟩ : ∃ L0, L0 = [e] ++ a.flatMap ends ++ b.flatMap ends := ⟨_, rfl⟩
  have hlen : L0.length = 2 * a.length + 2 * b.length + 1 := by rw [hL0, List.length_append, List.length_append, fl, fl]; simp; omega
  obtain ⟨q, rfl⟩ : ∃ q, k = a.length + 1 + (b.length + 1 + ((sortB L0).length + 1 + q)) := ⟨k - (a.length + 1 + (b.length + 1 + ((sortB L0).length + 1))), by rw [sortB_len, hlen]; omega⟩
  obtain ⟨hs, hmem⟩ := sortB_ok L0
  obtain ⟨d1, d2, -, d4⟩ := ded_ok (sortB L0) hs (sortB L0).length (Nat.le_refl _)
  have hin : ∀ x ∈ L0, x.toList ∈ (ded (sortB L0) (sortB L0).length).map ByteArray.toList := by
    intro x hx
    obtain ⟨j, hj, rfl⟩ := List.mem_iff_getElem.1 ((hmem x).2 hx)
    exact d2 j hj hj
  have h0 : ([] : T) ∈ (ded (sortB L0) (sortB L0).length).map ByteArray.toList := by
    have := hin e (by rw [hL0]; simp)
    rw [he, ByteArray.toList_eq] at this
    exact this
  refine ⟨ded (sortB L0) (sortB L0).length, (ded (sortB L0) (sortB L0).length).drop 1, ?_, ?_, ?_, d1, ?_⟩
  · have h1 := marks_l0 a b (by omega) a.length 0 (b.length + 1 + ((sortB L0).length + 1 + q)) [e] (by omega) (by simp; omega)
    have h2 := marks_l1 b (by omega) b.length 0 ((sortB L0).length + 1 + q) ([e] ++ a.flatMap ends) (by omega) (by rw [List.length_append, fl]; simp; omega)
    have h3 := marks_l2 (sortB L0) (by rw [sortB_len]; omega) (sortB L0).length 0 q (by omega)
    rw [List.drop_zero] at h1 h2
    rw [← hL0] at h2
    have h4 : sort_Strings.f L0 = some (sortB L0) := by unfold sort_Strings.f; rw [if_pos (by omega)]
    rw [h4, Option.bind_some] at h2
    unfold hawserref06_marks.f
    rw [← he]
    exact h1.trans (h2.trans h3)
  · have := ded_len (sortB L0) (sortB L0).length
    rw [sortB_len, hlen] at this
    rw [sortB_len, hlen]; exact this
  · cases hM : ded (sortB L0) (sortB L0).length with
    | nil => rw [hM] at h0; cases h0
    | cons x r =>
      rw [hM] at h0 d1
      rw [List.drop_one, List.tail_cons, List.map_cons]
      rw [List.map_cons] at h0 d1
      rcases List.mem_cons.1 h0 with h1 | h1
      · rw [← h1]
      · have := (List.pairwise_cons.1 d1).1 _ h1
        rw [lt_nil] at this; cases this
  · intro x hx
    have hx0 : x.f0 ∈ L0 ∧ x.f1 ∈ L0 := by
      rw [hL0]
      rcases hx with hx | hx
      · exact ⟨List.mem_append_left _ (List.mem_append_right _ (List.mem_flatMap.2 ⟨x, hx, by simp [ends]⟩)), List.mem_append_left _ (List.mem_append_right _ (List.mem_flatMap.2 ⟨x, hx, by simp [ends]⟩))⟩
      · exact ⟨List.mem_append_right _ (List.mem_flatMap.2 ⟨x, hx, by simp [ends]⟩), List.mem_append_right _ (List.mem_flatMap.2 ⟨x, hx, by simp [ends]⟩)⟩
    exact ⟨hin _ hx0.1, hin _ hx0.2⟩
def stepB (w : T → Bool) (out : List S31) (s t : ByteArray) : List S31 :=
  if w s.toList = true then
    match out.getLast? with
    | none => [⟨s, t⟩]
    | some x => if x.f1.toList = s.toList then out.dropLast ++ [⟨x.f0, t⟩] else out ++ [⟨s, t⟩]
  else out
theorem stepB_map (w : T → Bool) (out : List S31) (s t : ByteArray) : (stepB w out s t).map p31 = stepL w (out.map p31) s.toList t.toList ∧ (stepB w out s t).length ≤ out.length + 1 := by
  unfold stepB stepL
  by_cases hw : w s.toList = true
  · rw [if_pos hw, if_pos hw]
    rcases List.eq_nil_or_concat out with rfl | ⟨o, x, h⟩
    · exact ⟨rfl, by simp⟩
    · rw [List.concat_eq_append] at h
      subst h
      have e1 : (o ++ [x]).getLast? = some x := by simp
      have e2 : ((o ++ [x]).map p31).getLast? = some (p31 x) := by simp
      rw [e1, e2]
      show (if x.f1.toList = s.toList then _ else _ : List S31).map p31 = (if x.f1.toList = s.toList then _ else _) ∧ (if x.f1.toList = s.toList then _ else _ : List S31).length ≤ _
      split
      · refine ⟨?_, by simp⟩
        simp [p31]
      · refine ⟨?_, by simp⟩
        simp [p31]
  · rw [if_neg hw, if_neg hw]
    exact ⟨rfl, by omega⟩
theorem lay_j1 (what : Int) (a b : List S31) (ha : a.length ≤ 1048576) (hb : b.length ≤ 1048576) (M : List ByteArray) (out : List S31) (i k : Nat) (t : ByteArray) (hi : i < M.length) (hM : M.length ≤ 4294967296) (ho : out.length ≤ i) (hk : a.length + b.length + 1 ≤ k) :
    hawserref06_Lay.j1 (k + 1) what a b out M (i : Int) t = hawserref06_Lay.l0 k what a b (stepB (want what a b) out M[i] t) M ((i + 1 : Nat) : Int) := by
  rw [hawserref06_Lay.j1, if_pos (by omega), if_pos (by omega), rdB M i hi, wanted_f what a b _ (by omega) (by omega) k hk, Option.bind_some, w_up i (by omega)]
  unfold stepB
  by_cases hw : want what a b M[i].toList = true
  · rw [if_pos hw, if_pos hw]
    rcases List.eq_nil_or_concat out with rfl | ⟨o, x, h⟩
    · have w0 : wrap64 (((([] : List S31).length : Nat) : Int) - 1) = -1 := IntWalk.wrap64_in _ (by simp)
      rw [w0, if_neg (by omega), if_pos (by simp)]
      rfl
    · rw [List.concat_eq_append] at h
      subst h
      have e1 : (o ++ [x]).getLast? = some x := by simp
      have hl : ((o ++ [x]).length : Int) = ((o.length + 1 : Nat) : Int) := by simp
      have hol : o.length + 1 ≤ i := by simpa using ho
      have w1 : wrap64 (((o ++ [x]).length : Int) - 1) = (o.length : Int) := by rw [hl, IntWalk.wrap64_in _ (by omega)]; omega
      have rx : rd_T31 (o ++ [x]) (o.length : Int) = x := by
        rw [rd31 (o ++ [x]) o.length (by simp)]; simp
      rw [e1, w1, if_pos (by omega), if_pos (by omega), if_pos (by rw [hl]; omega), rx]
      show (if x.f1.toList = M[i].toList then _ else _) = hawserref06_Lay.l0 k what a b (if x.f1.toList = M[i].toList then _ else _) M _
      by_cases q : x.f1.toList = M[i].toList
      · rw [if_pos q, if_pos q, Int.toNat_natCast]
        have es : (o ++ [x]).set o.length (⟨x.f0, t⟩ : S31) = (o ++ [x]).dropLast ++ [⟨x.f0, t⟩] := by
          rw [List.set_append_right _ _ (Nat.le_refl _)]; simp
        rw [es]
      · rw [if_neg q, if_neg q, if_pos (by simp; omega)]
  · rw [if_neg hw, if_neg hw]
theorem lay_ref (what : Int) (a b : List S31) (ha : a.length ≤ 1048576) (hb : b.length ≤ 1048576) (M : List ByteArray) (hM : M.length ≤ 4294967296) : ∀ (m i k : Nat) (out : List S31), i + m = M.length → out.length ≤ i → a.length + b.length + 1 ≤ k →
    ∃ out', hawserref06_Lay.l0 (2 * m + 1 + k) what a b out M (i : Int) = some out' ∧ out'.length ≤ M.length ∧ out'.map p31 = layL (want what a b) (out.map p31) ((M.drop i).map ByteArray.toList) := by
  intro m
  induction m with
  | zero =>
    intro i k out hi ho hk
    obtain rfl : i = M.length := by omega
    refine ⟨out, ?_, ho, ?_⟩
    · rw [show 2 * 0 + 1 + k = k + 1 by omega, hawserref06_Lay.l0, if_neg (by omega)]
    · rw [List.drop_length]; rfl
  | succ m ih =>
    intro i k out hi ho hk
    have hlt : i < M.length := by omega
    have key : ∀ t : ByteArray, t.toList = ((M.drop (i + 1)).map ByteArray.toList).headD [] → ∃ out', hawserref06_Lay.j1 ((2 * m + 1 + k) + 1) what a b out M (i : Int) t = some out' ∧ out'.length ≤ M.length ∧ out'.map p31 = layL (want what a b) (out.map p31) ((M.drop i).map ByteArray.toList) := by
      intro t ht
      obtain ⟨s1, s2⟩ := stepB_map (want what a b) out M[i] t
      obtain ⟨out', h1, h2, h3⟩ := ih (i + 1) k (stepB (want what a b) out M[i] t) (by omega) (by omega) hk
      refine ⟨out', ?_, h2, ?_⟩
      · rw [lay_j1 what a b ha hb M out i (2 * m + 1 + k) t hlt hM ho (by omega)]; exact h1
      · rw [h3, s1, List.drop_eq_getElem_cons hlt, List.map_cons, layL, ← ht]
    rw [show 2 * (m + 1) + 1 + k = ((2 * m + 1 + k) + 1) + 1 by omega, hawserref06_Lay.l0, if_pos (by omega), w_up i (by omega)]
    by_cases h2 : i + 1 < M.length
    · rw [if_pos (by omega), if_pos (by omega), rdB M (i + 1) h2]
      exact key M[i + 1] (by rw [List.drop_eq_getElem_cons h2]; rfl)
    · rw [if_neg (by omega)]
      refine key _ ?_
      rw [List.drop_eq_nil_of_le (by omega), ByteArray.toList_eq]
      rfl
/-- What the document lays out of two lists: the normal form of what is wanted. -/
theorem lay_f (what : Int) (a b : List S31) (ha : a.length ≤ 1048576) (hb : b.length ≤ 1048576) : ∃ (k : Nat) (out : List S31), hawserref06_Lay.f k what a b = some out ∧ out.length ≤ 4194305 ∧ NF (out.map p31) ∧ ∀ x, hasL (out.map p31) x = want what a b x := by
  obtain ⟨q, hq⟩ : ∃ q, q = a.length + b.length + 1 + (3 * a.length + 3 * b.length + 8) := ⟨_, rfl⟩
  obtain ⟨M, rest, hm, hlen, hM, hp, hin⟩ := marks_f a b ha hb (3 * a.length + 3 * b.length + 8) (Nat.le_refl _)
  have up : ∀ n, hawserref06_marks.f (3 * a.length + 3 * b.length + 8 + n) a b = some M := by
    intro n
    induction n with
    | zero => exact hm
    | succ n ih => exact hawserref06_marks.mono a b _ _ ih
  obtain ⟨out, h1, h2, h3⟩ := lay_ref what a b ha hb M (by omega) M.length 0 q [] (by omega) (by simp) (by omega)
  rw [List.drop_zero, hM] at h3
  have hc : Const (want what a b) ([] :: rest.map ByteArray.toList) := by
    rw [← hM]
    refine const_of _ [] _ (by simpa using hp) (fun s k hs hk he => ?_)
    have ea : hasL (a.map p31) k = hasL (a.map p31) s := hasL_const _ (M.map ByteArray.toList) (fun x hx => by
      obtain ⟨y, hy, rfl⟩ := List.mem_map.1 hx
      exact hin y (.inl hy)) s k (fun e h => he e (by simpa using h))
    have eb : hasL (b.map p31) k = hasL (b.map p31) s := hasL_const _ (M.map ByteArray.toList) (fun x hx => by
      obtain ⟨y, hy, rfl⟩ := List.mem_map.1 hx
      exact hin y (.inr hy)) s k (fun e h => he e (by simpa using h))
    unfold want
    rw [ea, eb]
  rw [hM] at hp
  obtain ⟨g1, g2⟩ := lay_all (want what a b) (rest.map ByteArray.toList) hp hc
  refine ⟨2 * M.length + 1 + q, out, ?_, by omega, by rw [h3]; exact g1, fun x => by rw [h3]; exact g2 x⟩
  unfold hawserref06_Lay.f
  have e := up (2 * M.length + 1 + (a.length + b.length + 1))
  rw [show 3 * a.length + 3 * b.length + 8 + (2 * M.length + 1 + (a.length + b.length + 1)) = 2 * M.length + 1 + q by omega] at e
  rw [e, Option.bind_some]
  exact h1
/-! ### both -/
theorem same_f (got : List S28) (wnt : List S31) (h : got.map p28 = wnt.map p31) (hl : got.length ≤ 4294967296) : ∀ (m i k : Nat), i + m = got.length → 2 * m + 2 ≤ k → hawserlaw06_same.l0 k got wnt (i : Int) = some true := by
  have hlen : got.length = wnt.length := by have := congrArg List.length h; simpa using this
  intro m
  induction m with
  | zero =>
    intro i k hi hk
    obtain ⟨k, rfl⟩ : ∃ q, k = q + 2 := ⟨k - 2, by omega⟩
    rw [hawserlaw06_same.l0, if_neg (by omega), hawserlaw06_same.j1, if_neg (by decide), hlen]
    simp
  | succ m ih =>
    intro i k hi hk
    obtain ⟨k, rfl⟩ : ∃ q, k = q + 2 := ⟨k - 2, by omega⟩
    have hlt : i < got.length := by omega
    have hlt2 : i < wnt.length := by omega
    have e := congrArg (fun l => l[i]?) h
    simp only [List.getElem?_map, List.getElem?_eq_getElem hlt, List.getElem?_eq_getElem hlt2, Option.map_some] at e
    injection e with e
    have e0 : got[i].f0.toList = wnt[i].f0.toList := congrArg Prod.fst e
    have e1 : got[i].f1.toList = wnt[i].f1.toList := congrArg Prod.snd e
    rw [hawserlaw06_same.l0, if_pos (by omega), show decide ((i : Int) < (wnt.length : Int)) = true from decide_eq_true (by omega), hawserlaw06_same.j1, if_pos rfl, if_pos (by omega), if_pos (by omega), if_pos (by omega), rd28 got i hlt, rd31 wnt i hlt2, if_pos e0, if_pos e1, w_up i (by omega)]
    exact ih (i + 1) k (by omega) (by omega)
def conv (x : S28) : S31 := ⟨x.f0, x.f1⟩
theorem plain_l0 (l : List S28) (hl : l.length ≤ 1048576) : ∀ (m i k : Nat), i + m = l.length → hawserlaw06_plain.l0 (m + 1 + k) l ((l.take i).map conv) (i : Int) = some (l.map conv) := by
  intro m
  induction m with
  | zero =>
    intro i k hi
    obtain rfl : i = l.length := by omega
    rw [show 0 + 1 + k = k + 1 by omega, hawserlaw06_plain.l0, if_neg (by omega), List.take_length]
  | succ m ih =>
    intro i k hi
    have hlt : i < l.length := by omega
    have h := ih (i + 1) k (by omega)
    rw [List.take_add_one, List.getElem?_eq_getElem hlt, List.map_append] at h
    rw [show m + 1 + 1 + k = (m + 1 + k) + 1 by omega, hawserlaw06_plain.l0, if_pos (by omega), if_pos (by omega), if_pos (by simp; omega), rd28 l i hlt, w_up i (by omega)]
    exact h
theorem conv_p (l : List S28) : (l.map conv).map p31 = l.map p28 := by rw [List.map_map]; rfl
/-- Normal, the program's and the document's. -/
theorem normals_law (l : List S28) (hl : l.length ≤ 1048576) : ∃ (kp kr ks : Nat) (got : List S28) (wnt : List S31), hawserlaw06_plain.f kp l = some (l.map conv) ∧ span_Normal.f l = some got ∧ hawserref06_Normal.f kr (l.map conv) = some wnt ∧ hawserlaw06_same.f ks got wnt = some true := by
  obtain ⟨g1, g2⟩ := merged_ok l
  obtain ⟨k, wnt, h1, h2, h3, h4⟩ := lay_f 0 (l.map conv) [] (by simpa using hl) (by simp)
  have e : ((sortR (l.filter full)).foldl stepR []).map p28 = wnt.map p31 := unique _ _ g1 h3 (fun x => by
    rw [g2, h4]
    unfold want
    rw [if_neg (by decide), if_neg (by decide), conv_p]
    show _ = (_ || false)
    rw [Bool.or_false])
  have hg : ((sortR (l.filter full)).foldl stepR []).length = wnt.length := by have := congrArg List.length e; simpa using this
  refine ⟨l.length + 1, k, 2 * ((sortR (l.filter full)).foldl stepR []).length + 2, _, wnt, ?_, ?_, ?_, same_f _ _ e (by omega) _ 0 _ (by omega) (Nat.le_refl _)⟩
  · exact plain_l0 l hl l.length 0 0 (by omega)
  · unfold span_Normal.f span_merged.f
    rw [if_pos (by omega)]
    rfl
  · unfold hawserref06_Normal.f
    rw [h1]
    rfl
end Go.Proofs.YtijlanhhelichaaDoor.Normals

/- What is proved: lists of ranges of texts in normal form that have the same texts are the same list; plain, no program in sight; the conditions stand in the theorems. -/
import Derived.Test.YtmjmjjhfficilaaDoorXtra
namespace Go.Proofs.YtmjmjjhfficilaaDoor.Texts
set_option linter.unusedVariables false
set_option linter.unusedSimpArgs false
abbrev T := List UInt8
abbrev lt (a b : T) : Bool := Op.bytesLess a b
theorem total (a b : T) : (lt a b || a == b) = !lt b a := Xtra.less_total a b
theorem lt_cons (x y : UInt8) (xs ys : T) : lt (x :: xs) (y :: ys) = true ↔ x.toNat < y.toNat ∨ (x.toNat = y.toNat ∧ lt xs ys = true) := by
  simp only [lt, Op.bytesLess, Bool.or_eq_true, decide_eq_true_eq, Bool.and_eq_true, beq_iff_eq, UInt8.lt_iff_toNat_lt, ← UInt8.toNat_inj]
theorem lt_nil (xs : T) : lt xs [] = false := by cases xs <;> rfl
theorem nil_lt (y : UInt8) (ys : T) : lt [] (y :: ys) = true := rfl
theorem irrefl (a : T) : lt a a = false := by
  have h := total a a
  simp only [BEq.rfl, Bool.or_true] at h
  cases k : lt a a with
  | false => rfl
  | true => rw [k] at h; cases h
theorem asymm {a b : T} (h : lt a b = true) : lt b a = false := by
  have k := total a b
  rw [h, Bool.true_or] at k
  cases e : lt b a with
  | false => rfl
  | true => rw [e] at k; cases k
theorem trans : ∀ {a b c : T}, lt a b = true → lt b c = true → lt a c = true
  | _, [], _, h, _ => by rw [lt_nil] at h; cases h
  | _, _ :: _, [], _, h => by rw [lt_nil] at h; cases h
  | [], _ :: _, _ :: _, _, _ => rfl
  | x :: a, y :: b, z :: c, h, k => by
    rw [lt_cons] at h k ⊢
    rcases h with h | ⟨h, h2⟩ <;> rcases k with k | ⟨k, k2⟩
    · exact .inl (by omega)
    · exact .inl (by omega)
    · exact .inl (by omega)
    · exact .inr ⟨by omega, trans h2 k2⟩
theorem eq_of_not {a b : T} (h : lt a b = false) (k : lt b a = false) : a = b := by
  have e := total a b
  rw [h, k] at e
  simpa using e
/-- From a on, not b on: between. -/
theorem le_lt {a b c : T} (h : lt b a = false) (k : lt b c = true) : lt a c = true := by
  rcases Bool.eq_false_or_eq_true (lt a b) with e | e
  · exact trans e k
  · rw [eq_of_not e h]; exact k
theorem lt_le {a b c : T} (h : lt a b = true) (k : lt c b = false) : lt a c = true := by
  rcases Bool.eq_false_or_eq_true (lt b c) with e | e
  · exact trans h e
  · rw [← eq_of_not e k]; exact h
theorem le_trans {a b c : T} (h : lt b a = false) (k : lt c b = false) : lt c a = false := by
  cases e : lt c a with
  | false => rfl
  | true => rw [lt_le e h] at k; cases k
theorem lt_of_ne {a : T} (h : a ≠ []) : lt [] a = true := by cases a with | nil => exact absurd rfl h | cons x r => rfl
theorem ne_of_lt {a b : T} (h : lt a b = true) : b ≠ [] := by rintro rfl; rw [lt_nil] at h; cases h
/-- A range: from, up to ahead of to; to empty: without an end. -/
abbrev R := T × T
def has (x : R) (k : T) : Bool := !lt k x.1 && (x.2 == [] || lt k x.2)
def hasL (l : List R) (k : T) : Bool := l.any (has · k)
def ok (x : R) : Prop := x.2 = [] ∨ lt x.1 x.2 = true
/-- Normal form. -/
def NF (l : List R) : Prop := (∀ x ∈ l, ok x) ∧ l.Pairwise fun x y => x.2 ≠ [] ∧ lt x.2 y.1 = true
theorem has_iff {x : R} {k : T} : has x k = true ↔ lt k x.1 = false ∧ (x.2 = [] ∨ lt k x.2 = true) := by
  unfold has
  rw [Bool.and_eq_true, Bool.or_eq_true, beq_iff_eq, Bool.not_eq_true']
theorem hasL_iff {l : List R} {k : T} : hasL l k = true ↔ ∃ x ∈ l, has x k = true := by unfold hasL; rw [List.any_eq_true]
theorem has_from {x : R} (h : ok x) : has x x.1 = true := has_iff.2 ⟨irrefl _, h⟩
theorem hasL_cons (x : R) (l : List R) (k : T) : hasL (x :: l) k = (has x k || hasL l k) := rfl
theorem hasL_append (l m : List R) (k : T) : hasL (l ++ m) k = (hasL l k || hasL m k) := by unfold hasL; rw [List.any_append]
theorem hasL_snoc (l : List R) (x : R) (k : T) : hasL (l ++ [x]) k = (hasL l k || has x k) := by rw [hasL_append]; simp [hasL]
theorem NF.tail {x : R} {l : List R} (h : NF (x :: l)) : NF l := ⟨fun y hy => h.1 y (List.mem_cons_of_mem _ hy), (List.pairwise_cons.1 h.2).2⟩
/-- All texts behind the first range lie behind its end. -/
theorem NF.behind {x : R} {l : List R} (h : NF (x :: l)) {k : T} (hk : hasL l k = true) : x.2 ≠ [] ∧ lt x.2 k = true := by
  obtain ⟨y, hy, hyk⟩ := hasL_iff.1 hk
  obtain ⟨h1, h2⟩ := (List.pairwise_cons.1 h.2).1 y hy
  exact ⟨h1, lt_le h2 (has_iff.1 hyk).1⟩
theorem NF.ge {x : R} {l : List R} (h : NF (x :: l)) {k : T} (hk : hasL (x :: l) k = true) : lt k x.1 = false := by
  rw [hasL_cons, Bool.or_eq_true] at hk
  rcases hk with hk | hk
  · exact (has_iff.1 hk).1
  · obtain ⟨h1, h2⟩ := h.behind hk
    rcases h.1 x List.mem_cons_self with h3 | h3
    · exact absurd h3 h1
    · exact asymm (trans h3 h2)
theorem NF.to_out {x : R} {l : List R} (h : NF (x :: l)) (hx : x.2 ≠ []) : hasL (x :: l) x.2 = false := by
  cases e : hasL (x :: l) x.2 with
  | false => rfl
  | true =>
    rw [hasL_cons, Bool.or_eq_true] at e
    rcases e with e | e
    · rcases (has_iff.1 e).2 with h1 | h1
      · exact absurd h1 hx
      · rw [irrefl] at h1; cases h1
    · have := (h.behind e).2
      rw [irrefl] at this; cases this
theorem NF.apart {x : R} {l : List R} (h : NF (x :: l)) {k : T} (hk : hasL l k = true) : has x k = false := by
  obtain ⟨h1, h2⟩ := h.behind hk
  cases e : has x k with
  | false => rfl
  | true =>
    rcases (has_iff.1 e).2 with h3 | h3
    · exact absurd h3 h1
    · rw [asymm h2] at h3; cases h3
theorem to_le {x y : R} {l m : List R} (h : NF (x :: l)) (h' : NF (y :: m)) (he : x.1 = y.1) (hs : ∀ k, hasL (x :: l) k = hasL (y :: m) k) (hx : x.2 ≠ []) : y.2 ≠ [] ∧ lt x.2 y.2 = false := by
  have h1 := h.to_out hx
  have hxx : lt x.1 x.2 = true := (h.1 x List.mem_cons_self).resolve_left hx
  rw [hs, hasL_cons, Bool.or_eq_false_iff] at h1
  have h2 : ¬ (lt x.2 y.1 = false ∧ (y.2 = [] ∨ lt x.2 y.2 = true)) := by
    intro h3
    rw [has_iff.2 h3] at h1
    cases h1.1
  have h4 : lt x.2 y.1 = false := by rw [← he]; exact asymm hxx
  refine ⟨fun e => h2 ⟨h4, .inl e⟩, ?_⟩
  cases e : lt x.2 y.2 with
  | false => rfl
  | true => exact absurd ⟨h4, .inr e⟩ h2
/-- ONE NORMAL FORM for the same texts. -/
theorem unique : ∀ (l m : List R), NF l → NF m → (∀ k, hasL l k = hasL m k) → l = m
  | [], [], _, _, _ => rfl
  | [], y :: m, _, h', hs => by
    have h1 := hs y.1
    rw [hasL_cons, has_from (h'.1 y List.mem_cons_self), Bool.true_or] at h1
    cases h1
  | x :: l, [], h, _, hs => by
    have h1 := hs x.1
    rw [hasL_cons, has_from (h.1 x List.mem_cons_self), Bool.true_or] at h1
    cases h1
  | x :: l, y :: m, h, h', hs => by
    have hx : hasL (x :: l) x.1 = true := by rw [hasL_cons, has_from (h.1 x List.mem_cons_self), Bool.true_or]
    have hy : hasL (y :: m) y.1 = true := by rw [hasL_cons, has_from (h'.1 y List.mem_cons_self), Bool.true_or]
    have e1 : x.1 = y.1 := eq_of_not (h'.ge (by rw [← hs]; exact hx)) (h.ge (by rw [hs]; exact hy))
    have e2 : x.2 = y.2 := by
      by_cases hx2 : x.2 = []
      · by_cases hy2 : y.2 = []
        · rw [hx2, hy2]
        · exact absurd hx2 (to_le h' h e1.symm (fun k => (hs k).symm) hy2).1
      · obtain ⟨h3, h4⟩ := to_le h h' e1 hs hx2
        obtain ⟨h5, h6⟩ := to_le h' h e1.symm (fun k => (hs k).symm) h3
        exact eq_of_not h4 h6
    obtain rfl : x = y := Prod.ext e1 e2
    have hr : ∀ k, hasL l k = hasL m k := by
      intro k
      have h3 := hs k
      rw [hasL_cons, hasL_cons] at h3
      cases a : hasL l k with
      | true =>
        rw [h.apart a, a] at h3
        simpa using h3
      | false =>
        cases b : hasL m k with
        | false => rfl
        | true =>
          rw [h'.apart b, a, b] at h3
          cases h3
    rw [unique l m h.tail h'.tail hr]
/-- What the program does at one range. -/
def stepP (out : List R) (r : R) : List R :=
  match out.getLast? with
  | none => [r]
  | some l => if l.2 = [] then out else if lt l.2 r.1 = true then out ++ [r] else if r.2 = [] then out.dropLast ++ [(l.1, r.2)] else if lt l.2 r.2 = true then out.dropLast ++ [(l.1, r.2)] else out
theorem stepP_nil (r : R) : stepP [] r = [r] := rfl
theorem stepP_snoc (o : List R) (l r : R) : stepP (o ++ [l]) r = if l.2 = [] then o ++ [l] else if lt l.2 r.1 = true then o ++ [l] ++ [r] else if r.2 = [] then o ++ [(l.1, r.2)] else if lt l.2 r.2 = true then o ++ [(l.1, r.2)] else o ++ [l] := by
  unfold stepP
  simp
theorem NF.snoc {o : List R} {l : R} : NF (o ++ [l]) ↔ NF o ∧ ok l ∧ ∀ x ∈ o, x.2 ≠ [] ∧ lt x.2 l.1 = true := by
  unfold NF
  rw [List.pairwise_append]
  constructor
  · rintro ⟨h1, h2, h3, h4⟩
    exact ⟨⟨fun x hx => h1 x (List.mem_append_left _ hx), h2⟩, h1 l (by simp), fun x hx => h4 x hx l (by simp)⟩
  · rintro ⟨⟨h1, h2⟩, h3, h4⟩
    refine ⟨fun x hx => ?_, h2, by simp, fun x hx y hy => ?_⟩
    · rcases List.mem_append.1 hx with hx | hx
      · exact h1 x hx
      · rw [List.mem_singleton.1 hx]; exact h3
    · rw [List.mem_singleton.1 hy]; exact h4 x hx
theorem bool_ext {a b : Bool} (h : a = true ↔ b = true) : a = b := by cases a <;> cases b <;> simp_all
theorem snoc_inj {α : Type} {o o' : List α} {l l' : α} (h : o ++ [l] = o' ++ [l']) : l = l' := (List.append_inj' h rfl).2 |> List.singleton_inj.1
theorem step_ok {out : List R} {r : R} (h : NF out) (hr : ok r) (hlast : ∀ o l, out = o ++ [l] → lt r.1 l.1 = false) :
    NF (stepP out r) ∧ (∀ k, hasL (stepP out r) k = (hasL out k || has r k)) ∧ ∀ o l, stepP out r = o ++ [l] → lt r.1 l.1 = false := by
  rcases List.eq_nil_or_concat out with rfl | ⟨o, l, hc⟩
  · rw [stepP_nil]
    refine ⟨⟨fun x hx => by rw [List.mem_singleton.1 hx]; exact hr, by simp⟩, fun k => by simp [hasL], fun o l hl => ?_⟩
    have := snoc_inj (show ([] : List R) ++ [r] = o ++ [l] from hl)
    rw [← this]; exact irrefl _
  · rw [List.concat_eq_append] at hc
    subst hc
    have hrl := hlast o l rfl
    obtain ⟨ho, hl, hx⟩ := NF.snoc.1 h
    rw [stepP_snoc]
    by_cases q1 : l.2 = []
    · rw [if_pos q1]
      refine ⟨h, fun k => bool_ext ?_, fun o' l' e => by rw [← snoc_inj e]; exact hrl⟩
      rw [hasL_snoc, Bool.or_eq_true, Bool.or_eq_true, Bool.or_eq_true]
      constructor
      · exact .inl
      · rintro (h1 | h1)
        · exact h1
        · exact .inr (has_iff.2 ⟨le_trans hrl (has_iff.1 h1).1, .inl q1⟩)
    · rw [if_neg q1]
      have hll : lt l.1 l.2 = true := hl.resolve_left q1
      by_cases q2 : lt l.2 r.1 = true
      · rw [if_pos q2]
        refine ⟨NF.snoc.2 ⟨h, hr, fun x hxm => ?_⟩, fun k => by rw [hasL_snoc], fun o' l' e => by rw [← snoc_inj e]; exact irrefl _⟩
        rcases List.mem_append.1 hxm with hxm | hxm
        · exact ⟨(hx x hxm).1, trans (hx x hxm).2 (trans hll q2)⟩
        · rw [List.mem_singleton.1 hxm]; exact ⟨q1, q2⟩
      · rw [if_neg q2]
        have q2' : lt l.2 r.1 = false := by simpa using q2
        by_cases q3 : r.2 = []
        · rw [if_pos q3]
          refine ⟨NF.snoc.2 ⟨ho, .inl q3, hx⟩, fun k => bool_ext ?_, fun o' l' e => by rw [← snoc_inj e]; exact hrl⟩
          rw [hasL_snoc, hasL_snoc, Bool.or_eq_true, Bool.or_eq_true, Bool.or_eq_true, has_iff, has_iff, has_iff]
          constructor
          · rintro (h1 | ⟨h1, -⟩)
            · exact .inl (.inl h1)
            · rcases Bool.eq_false_or_eq_true (lt k l.2) with e | e
              · exact .inl (.inr ⟨h1, .inr e⟩)
              · exact .inr ⟨le_trans (by
                  cases e2 : lt l.2 r.1 with
                  | false => first | exact e2 | (cases e3 : lt r.1 l.2 <;> simp_all)
                  | true => exact absurd e2 q2) e |> fun z => by
                    cases e4 : lt k r.1 with
                    | false => rfl
                    | true => have := le_lt e e4; exact absurd this q2, .inl q3⟩
          · rintro ((h1 | ⟨h1, -⟩) | ⟨h1, -⟩)
            · exact .inl h1
            · exact .inr ⟨h1, .inl q3⟩
            · exact .inr ⟨le_trans hrl h1, .inl q3⟩
        · rw [if_neg q3]
          by_cases q4 : lt l.2 r.2 = true
          · rw [if_pos q4]
            refine ⟨NF.snoc.2 ⟨ho, .inr (trans hll q4), hx⟩, fun k => bool_ext ?_, fun o' l' e => by rw [← snoc_inj e]; exact hrl⟩
            rw [hasL_snoc, hasL_snoc, Bool.or_eq_true, Bool.or_eq_true, Bool.or_eq_true, has_iff, has_iff, has_iff]
            constructor
            · rintro (h1 | ⟨h1, h2⟩)
              · exact .inl (.inl h1)
              · rcases Bool.eq_false_or_eq_true (lt k l.2) with e | e
                · exact .inl (.inr ⟨h1, .inr e⟩)
                · refine .inr ⟨?_, h2⟩
                  cases e4 : lt k r.1 with
                  | false => rfl
                  | true => exact absurd (le_lt e e4) q2
            · rintro ((h1 | ⟨h1, h2⟩) | ⟨h1, h2⟩)
              · exact .inl h1
              · rcases h2 with h2 | h2
                · exact absurd h2 q1
                · exact .inr ⟨h1, .inr (trans h2 q4)⟩
              · exact .inr ⟨le_trans hrl h1, h2⟩
          · rw [if_neg q4]
            have q4' : lt l.2 r.2 = false := by simpa using q4
            refine ⟨h, fun k => bool_ext ?_, fun o' l' e => by rw [← snoc_inj e]; exact hrl⟩
            rw [hasL_snoc, Bool.or_eq_true, Bool.or_eq_true, Bool.or_eq_true, has_iff, has_iff]
            constructor
            · exact .inl
            · rintro (h1 | ⟨h1, h2⟩)
              · exact h1
              · rcases h2 with h2 | h2
                · exact absurd h2 q3
                · exact .inr ⟨le_trans hrl h1, .inr (lt_le h2 q4')⟩
theorem fold_ok : ∀ (rs : List R), rs.Pairwise (fun a b => lt b.1 a.1 = false) → (∀ r ∈ rs, ok r) → ∀ out, NF out → (∀ o l, out = o ++ [l] → ∀ r ∈ rs, lt r.1 l.1 = false) → NF (rs.foldl stepP out) ∧ ∀ k, hasL (rs.foldl stepP out) k = (hasL out k || hasL rs k)
  | [], _, _, out, h, _ => ⟨h, fun k => by simp [hasL]⟩
  | r :: rs, hs, hok, out, h, hl => by
    obtain ⟨h1, h2⟩ := List.pairwise_cons.1 hs
    obtain ⟨a, b, c⟩ := step_ok h (hok r List.mem_cons_self) (fun o l e => hl o l e r List.mem_cons_self)
    obtain ⟨d, e⟩ := fold_ok rs h2 (fun x hx => hok x (List.mem_cons_of_mem _ hx)) (stepP out r) a (fun o l e' r' hr' => by
      have e1 := c o l e'
      have e2 := h1 r' hr'
      exact le_trans e1 e2)
    exact ⟨d, fun k => by rw [List.foldl_cons, e, b, hasL_cons, Bool.or_assoc]⟩
/-- What the document does at one end. -/
def stepL (w : T → Bool) (out : List R) (s t : T) : List R :=
  if w s = true then
    match out.getLast? with
    | none => [(s, t)]
    | some x => if x.2 = s then out.dropLast ++ [(x.1, t)] else out ++ [(s, t)]
  else out
def layL (w : T → Bool) : List R → List T → List R
  | out, [] => out
  | out, s :: rest => layL w (stepL w out s (rest.headD [])) rest
/-- Between two ends all texts are alike. -/
def Const (w : T → Bool) : List T → Prop
  | [] => True
  | s :: rest => (∀ k, lt k s = false → (rest.headD [] = [] ∨ lt k (rest.headD []) = true) → w k = w s) ∧ Const w rest
theorem stepL_ok (w : T → Bool) (out : List R) (s t : T) (ht : t = [] ∨ lt s t = true) (hc : ∀ k, lt k s = false → (t = [] ∨ lt k t = true) → w k = w s) (h : NF out) (hx : ∀ x ∈ out, x.2 ≠ [] ∧ lt s x.2 = false) (hm : ∀ k, hasL out k = (w k && lt k s)) :
    NF (stepL w out s t) ∧ (∀ k, hasL (stepL w out s t) k = (w k && (t == [] || lt k t))) ∧ (t ≠ [] → ∀ x ∈ stepL w out s t, x.2 ≠ [] ∧ lt t x.2 = false) := by
  have hlow : ∀ k, lt k s = true → (t == [] || lt k t) = true := by
    intro k hk
    rcases ht with e | e
    · rw [e]; rfl
    · rw [trans hk e, Bool.or_true]
  have hup : ∀ k, lt k s = false → (t == [] || lt k t) = true → w k = w s := by
    intro k hk h2
    rw [Bool.or_eq_true, beq_iff_eq] at h2
    exact hc k hk h2
  unfold stepL
  by_cases hw : w s = true
  · rw [if_pos hw]
    have hnew : ∀ k, (hasL out k || has (s, t) k) = (w k && (t == [] || lt k t)) := by
      intro k
      rw [hm]
      cases e : lt k s with
      | true =>
        rw [hlow k e]
        have : has (s, t) k = false := by unfold has; simp [e]
        rw [this]; simp
      | false =>
        have h2 : has (s, t) k = (t == [] || lt k t) := by unfold has; simp [e]
        rw [h2]
        cases e2 : (t == [] || lt k t) with
        | true => rw [hup k e e2, hw]; rfl
        | false => simp
    rcases List.eq_nil_or_concat out with rfl | ⟨o, x, hcc⟩
    · refine ⟨⟨fun y hy => by rw [List.mem_singleton.1 hy]; exact ht, by simp⟩, fun k => ?_, fun htn y hy => ?_⟩
      · have := hnew k
        simpa [hasL] using this
      · rw [List.mem_singleton.1 (show y ∈ [(s, t)] from hy)]; exact ⟨htn, irrefl t⟩
    · rw [List.concat_eq_append] at hcc
      subst hcc
      obtain ⟨ho, hxo, hbe⟩ := NF.snoc.1 h
      obtain ⟨hx0, hx1⟩ := hx x (by simp)
      have hxx : lt x.1 x.2 = true := hxo.resolve_left hx0
      have hgl : (o ++ [x]).getLast? = some x := by simp
      rw [hgl]
      simp only
      by_cases q : x.2 = s
      · rw [if_pos q, List.dropLast_concat]
        have hxs : lt x.1 s = true := by rw [← q]; exact hxx
        refine ⟨NF.snoc.2 ⟨ho, ht.elim .inl (fun e => .inr (trans hxs e)), hbe⟩, fun k => ?_, fun htn y hy => ?_⟩
        · have h1 := hm k
          rw [hasL_snoc] at h1
          rw [hasL_snoc]
          cases e : lt k s with
          | true =>
            have h2 : has (x.1, t) k = has x k := by
              unfold has
              simp only
              rw [hlow k e, q, e]
              simp
            rw [h2, h1, hlow k e, e]
          | false =>
            rw [e, Bool.and_false, Bool.or_eq_false_iff] at h1
            have h3 : lt k x.1 = false := le_trans (asymm hxs) e
            have h2 : has (x.1, t) k = (t == [] || lt k t) := by unfold has; simp [h3]
            rw [h1.1, h2, Bool.false_or]
            cases e2 : (t == [] || lt k t) with
            | true => rw [hup k e e2, hw]; rfl
            | false => simp
        · rcases List.mem_append.1 hy with hy | hy
          · obtain ⟨h1, h2⟩ := hx y (List.mem_append_left _ hy)
            exact ⟨h1, by
              have h3 : lt s t = true := ht.resolve_left htn
              cases e : lt t y.2 with
              | false => rfl
              | true => rw [trans h3 e] at h2; cases h2⟩
          · rw [List.mem_singleton.1 hy]; exact ⟨htn, irrefl t⟩
      · rw [if_neg q]
        have hxs : lt x.2 s = true := by
          cases e : lt x.2 s with
          | true => rfl
          | false => exact absurd (eq_of_not e hx1) q
        refine ⟨NF.snoc.2 ⟨h, ht, fun y hy => ?_⟩, fun k => by rw [hasL_snoc]; exact hnew k, fun htn y hy => ?_⟩
        · rcases List.mem_append.1 hy with hy | hy
          · exact ⟨(hbe y hy).1, trans (hbe y hy).2 (trans hxx hxs)⟩
          · rw [List.mem_singleton.1 hy]; exact ⟨hx0, hxs⟩
        · rcases List.mem_append.1 hy with hy | hy
          · obtain ⟨h1, h2⟩ := hx y hy
            exact ⟨h1, by
              have h3 : lt s t = true := ht.resolve_left htn
              cases e : lt t y.2 with
              | false => rfl
              | true => rw [trans h3 e] at h2; cases h2⟩
          · rw [List.mem_singleton.1 hy]; exact ⟨htn, irrefl t⟩
  · rw [if_neg hw]
    have hw' : w s = false := by simpa using hw
    refine ⟨h, fun k => ?_, fun htn y hy => ?_⟩
    · rw [hm]
      cases e : lt k s with
      | true => rw [hlow k e]
      | false =>
        cases e2 : (t == [] || lt k t) with
        | true => rw [hup k e e2, hw']; rfl
        | false => rfl
    · obtain ⟨h1, h2⟩ := hx y hy
      exact ⟨h1, by
        have h3 : lt s t = true := ht.resolve_left htn
        cases e : lt t y.2 with
        | false => rfl
        | true => rw [trans h3 e] at h2; cases h2⟩
theorem lay_ok (w : T → Bool) : ∀ (rest : List T) (s : T) (out : List R), (s :: rest).Pairwise (fun a b => lt a b = true) → Const w (s :: rest) → NF out → (∀ x ∈ out, x.2 ≠ [] ∧ lt s x.2 = false) → (∀ k, hasL out k = (w k && lt k s)) →
    NF (layL w out (s :: rest)) ∧ ∀ k, hasL (layL w out (s :: rest)) k = w k
  | [], s, out, _, hc, h, hx, hm => by
    obtain ⟨a, b, -⟩ := stepL_ok w out s [] (.inl rfl) hc.1 h hx hm
    exact ⟨a, fun k => by
      show hasL (stepL w out s []) k = w k
      rw [b]; simp⟩
  | t :: rest, s, out, hp, hc, h, hx, hm => by
    have hst : lt s t = true := (List.pairwise_cons.1 hp).1 t List.mem_cons_self
    obtain ⟨a, b, c⟩ := stepL_ok w out s t (.inr hst) hc.1 h hx hm
    have htn : t ≠ [] := ne_of_lt hst
    exact lay_ok w rest t (stepL w out s t) (List.pairwise_cons.1 hp).2 hc.2 a (c htn) (fun k => by
      rw [b]
      have : (t == []) = false := beq_eq_false_iff_ne.2 htn
      rw [this, Bool.false_or])
/-- The whole of it: from the least text on. -/
theorem lay_all (w : T → Bool) (rest : List T) (hp : ([] :: rest).Pairwise (fun a b => lt a b = true)) (hc : Const w ([] :: rest)) : NF (layL w [] ([] :: rest)) ∧ ∀ k, hasL (layL w [] ([] :: rest)) k = w k :=
  lay_ok w rest [] [] hp hc ⟨fun x hx => (by cases hx), List.Pairwise.nil⟩ (fun x hx => by cases hx) (fun k => by rw [lt_nil, Bool.and_false]; rfl)
theorem const_of (w : T → Bool) : ∀ (pre m : List T), (pre ++ m).Pairwise (fun a b => lt a b = true) → (∀ s k : T, s ∈ m → lt k s = false → (∀ e ∈ pre ++ m, lt k e = lt s e) → w k = w s) → Const w m
  | _, [], _, _ => trivial
  | pre, s :: rest, hp, hw => by
    refine ⟨fun k hk hr => hw s k List.mem_cons_self hk (fun e he => ?_), const_of w (pre ++ [s]) rest (by simpa using hp) (fun s' k hs' hk he => hw s' k (List.mem_cons_of_mem _ hs') hk (fun e h => he e (by simpa using h)))⟩
    obtain ⟨h1, h2, h3⟩ := List.pairwise_append.1 hp
    obtain ⟨h4, h5⟩ := List.pairwise_cons.1 h2
    rcases List.mem_append.1 he with he | he
    · have h6 := h3 e he s List.mem_cons_self
      rw [asymm h6, asymm (lt_le h6 hk)]
    · rcases List.mem_cons.1 he with rfl | he
      · rw [hk, irrefl]
      · rw [h4 e he]
        cases rest with
        | nil => cases he
        | cons t rest =>
          have hst := h4 t List.mem_cons_self
          rcases hr with hr | hr
          · exact absurd hr (ne_of_lt hst)
          · rcases List.mem_cons.1 he with rfl | he
            · exact hr
            · exact trans hr ((List.pairwise_cons.1 h5).1 e he)
/-- A list's texts are alike between its ends. -/
theorem hasL_const (l : List R) (m : List T) (hm : ∀ x ∈ l, x.1 ∈ m ∧ x.2 ∈ m) (s k : T) (h : ∀ e ∈ m, lt k e = lt s e) : hasL l k = hasL l s := by
  apply bool_ext
  rw [hasL_iff, hasL_iff]
  constructor
  · rintro ⟨x, hx, hk⟩
    refine ⟨x, hx, ?_⟩
    rw [has_iff] at hk ⊢
    rw [← h x.1 (hm x hx).1, ← h x.2 (hm x hx).2]
    exact hk
  · rintro ⟨x, hx, hk⟩
    refine ⟨x, hx, ?_⟩
    rw [has_iff] at hk ⊢
    rw [h x.1 (hm x hx).1, h x.2 (hm x hx).2]
    exact hk
end Go.Proofs.YtmjmjjhfficilaaDoor.Texts

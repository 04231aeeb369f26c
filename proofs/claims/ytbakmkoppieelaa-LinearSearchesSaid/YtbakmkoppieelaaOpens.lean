/- What is proved: what comes in, of whatever type of numbers, bools, strings, slices and structs, reads as the printed kinds say, and its numbers and sizes fit; no condition. -/
import Derived.Test.YtbakmkoppieelaaWWords
import Derived.Deep.Slices
import Derived.Deep.Fields
import Derived.ChangeSame
import Derived.SizedLaws
namespace Go.Proofs.Ytbakmkoppieelaa.Opens
open Go.RowKit Go.Proofs.YtbakmkoppieelaaW.PrintWords Go.ChangeShapes Go.WideShapes Go.Deep
set_option linter.unusedVariables false
set_option linter.unusedSimpArgs false
def fits (l : List Nat) : Prop := ∀ n ∈ l, n ≤ 140737488351232
theorem fits_of {l : List Nat} (h : l.all (· ≤ reachBytes) = true) : fits l := fun n hn => by
  have := List.all_eq_true.1 h n hn
  have h2 : decide (n ≤ reachBytes) = true := this
  have h3 := of_decide_eq_true h2
  unfold reachBytes at h3
  omega
theorem fits_left {a b : List Nat} (h : fits (a ++ b)) : fits a := fun n hn => h n (List.mem_append_left _ hn)
theorem fits_right {a b : List Nat} (h : fits (a ++ b)) : fits b := fun n hn => h n (List.mem_append_right _ hn)
/-- Type t reads as kind d; ok: what is known of the numbers. -/
structure Opens (P : Program) (t : TypeId) {α : Type} (d : Kd α) (ok : α → Prop) : Prop where
  of : ∀ {H : Type} {enc : TypeId × Value → H} {w : World} {fuel : Nat} {cs : List Value} {x : DataW H × List MemPlace},
    DataW.trod enc P w 0 (fun _ => true) true fuel t cs = some x → fits (x.1.weights P t) → ∃ a, d.K w a cs ∧ ok a
section
variable {P : Program} {t e : TypeId}
theorem opens_int {k : IntKind} (ht : P.underlying t = some (.int k)) : Opens P t (Kd.int k) (fun n => (Lit.int k n).wf = true) := by
  refine ⟨?_⟩
  intro H enc w fuel cs x h _
  obtain ⟨n, rfl, rfl, hw⟩ := DataW.trod_int ht h
  exact ⟨n, rfl, hw⟩
theorem opens_bool (ht : P.underlying t = some .bool) : Opens P t Kd.bool (fun _ => True) := by
  refine ⟨?_⟩
  intro H enc w fuel cs x h _
  obtain ⟨b, rfl, rfl⟩ := DataW.trod_bool ht h
  exact ⟨b, rfl, trivial⟩
theorem opens_string (ht : P.underlying t = some .string) : Opens P t Kd.string (fun s => s.size ≤ 140737488351232) := by
  refine ⟨?_⟩
  intro H enc w fuel cs x h hf
  obtain ⟨s, rfl, rfl, hs⟩ := DataW.trod_string ht h
  exact ⟨s, rfl, by simpa [DataW.weights, fits] using hf⟩
theorem exists_list {α : Type} {p : Nat → α → Prop} : ∀ n, (∀ i, i < n → ∃ a, p i a) → ∃ xs : List α, xs.length = n ∧ ∀ i a, xs[i]? = some a → p i a
  | 0, _ => ⟨[], rfl, fun i a h => by simp at h⟩
  | n + 1, h => by
    obtain ⟨xs, hl, hx⟩ := exists_list n (fun i hi => h i (by omega))
    obtain ⟨a, ha⟩ := h n (by omega)
    refine ⟨xs ++ [a], by simp [hl], fun i b hb => ?_⟩
    rcases Nat.lt_or_ge i xs.length with hi | hi
    · rw [List.getElem?_append_left hi] at hb
      exact hx i b hb
    · rw [List.getElem?_append_right hi] at hb
      have h0 : i - xs.length = 0 := by
        rcases Nat.eq_zero_or_pos (i - xs.length) with h0 | h0
        · exact h0
        · rw [List.getElem?_eq_none (by simp; omega)] at hb; cases hb
      rw [h0] at hb
      simp at hb
      subst hb
      obtain rfl : i = n := by omega
      exact ha
theorem fits_all {H : Type} {l : List (DataW H)} {d : DataW H} (hd : d ∈ l) (h : fits (DataW.weightsAll P e l)) : fits (d.weights P e) := by
  induction l with
  | nil => cases hd
  | cons a r ih =>
    rw [DataW.weightsAll] at h
    rcases List.mem_cons.1 hd with rfl | hr
    · exact fits_left h
    · exact ih hr (fits_right h)
theorem opens_slice {α : Type} {d : Kd α} {ok : α → Prop} (ht : P.underlying t = some (.slice e)) (hc : P.cellsOf e = d.sz) (he : Opens P e d ok) :
    Opens P t (Kd.slice e d) (fun xs => xs.length ≤ 9223372036854775807 ∧ xs.length * P.bytesOf e ≤ 140737488351232 ∧ ∀ x ∈ xs, ok x) := by
  refine ⟨?_⟩
  intro H enc w fuel cs x h hf
  rcases open_slice ht h with ⟨rfl, rfl⟩ | ⟨a, len, cap, m, n, D, Pl, rfl, hb, hl, hm, hmm, rfl, hel⟩
  · exact ⟨[], ⟨none, 0, rfl, Nat.le_refl _, rfl, by simp, fun h0 => absurd h0 (by simp)⟩, by simp, by simp, fun x hx => by cases hx⟩
  · have hml : len ≤ m := by rw [hmm]; simpa using hl
    simp only [DataW.weights, ht] at hf
    have hf0 : ((List.range len).map D).length * P.bytesOf e ≤ 140737488351232 :=
      Nat.le_trans (Nat.mul_le_mul_right _ (Nat.le_add_right _ _)) (hf _ List.mem_cons_self)
    have hf1 : fits (DataW.weightsAll P e ((List.range len).map D)) := fun q hq => hf q (List.mem_cons_of_mem _ (List.mem_append_left _ hq))
    have key : ∀ i, i < len → ∃ b : α, (∃ c : List Value, c.length = d.sz ∧ d.K w b c ∧ ∀ j u, c[j]? = some u → w.cell? (a.add (i * d.sz + j)) = some u) ∧ ok b := by
      intro i hi
      obtain ⟨c, hcl, htr⟩ := hel i (by omega)
      obtain ⟨b, hK, hok⟩ := he.of htr (fits_all (List.mem_map.2 ⟨i, List.mem_range.2 hi, rfl⟩) hf1)
      obtain ⟨_, hlen, hcell⟩ := World.cells?_some hcl
      refine ⟨b, ⟨c, by rw [hlen, hc], hK, fun j u hu => ?_⟩, hok⟩
      have hj : j < c.length := by
        rcases Nat.lt_or_ge j c.length with h1 | h1
        · exact h1
        · rw [List.getElem?_eq_none h1] at hu; cases hu
      have h2 := hcell j (by omega)
      rw [hc, Go.Deep.add_add] at h2
      rw [h2, hu]
    obtain ⟨xs, hxl, hx⟩ := exists_list len key
    refine ⟨xs, ⟨some a, cap, by rw [hxl], by omega, rfl, ?_, fun _ => ⟨a, rfl, fun j p hj => ?_⟩⟩, ?_, ?_, fun x hx' => ?_⟩
    · rw [hxl]; unfold maxLen at hm; omega
    · exact (hx j p hj).1
    · rw [hxl]; unfold maxLen at hm; omega
    · rw [hxl]; simpa using hf0
    · obtain ⟨j, hj⟩ := List.mem_iff_getElem?.1 hx'
      exact (hx j x hj).2
/-- A struct's fields from the i-th on, from cell off on. -/
structure OpensFrom (P : Program) (fs : Array Field) (T i off : Nat) {α : Type} (d : Kd α) (ok : α → Prop) : Prop where
  of : ∀ {H : Type} {enc : TypeId × Value → H} {w : World} {fuel : Nat} {cs : List Value} {xs : List (DataW H × List MemPlace)},
    cs.length = T → xs.length = fs.size → (∀ (j : Nat) (f : Field), fs[j]? = some f → DataW.trod enc P w 0 (fun _ => true) true fuel f.type ((cs.drop f.offset).take (P.cellsOf f.type)) = xs[j]?) →
    fits (DataW.weightsEach P ((fs.toList.drop i).map (·.type)) ((xs.drop i).map (·.1))) → ∃ a, d.K w a (cs.drop off) ∧ ok a
theorem each_at {H : Type} {fs : Array Field} {i : Nat} {f : Field} {xs : List (DataW H × List MemPlace)} {y : DataW H × List MemPlace} (hf : fs[i]? = some f) (hy : xs[i]? = some y) :
    DataW.weightsEach P ((fs.toList.drop i).map (·.type)) ((xs.drop i).map (·.1)) = y.1.weights P f.type ++ DataW.weightsEach P ((fs.toList.drop (i + 1)).map (·.type)) ((xs.drop (i + 1)).map (·.1)) := by
  have h1 : fs.toList.drop i = f :: fs.toList.drop (i + 1) := by
    obtain ⟨hi, rfl⟩ := Array.getElem?_eq_some_iff.1 hf
    rw [List.drop_eq_getElem_cons (by simpa using hi)]
    simp
  have h2 : xs.drop i = y :: xs.drop (i + 1) := by
    obtain ⟨hi, rfl⟩ := List.getElem?_eq_some_iff.1 hy
    exact List.drop_eq_getElem_cons hi
  rw [h1, h2, List.map_cons, List.map_cons, DataW.weightsEach]
theorem opens_last {α : Type} {d : Kd α} {ok : α → Prop} {fs : Array Field} {T i off : Nat} {f : Field} (hf : fs[i]? = some f) (ho : f.offset = off) (hT : off + P.cellsOf f.type = T) (he : Opens P f.type d ok) : OpensFrom P fs T i off d ok := by
  refine ⟨?_⟩
  intro H enc w fuel cs xs hl hxl hfield hw
  have hi : i < fs.size := (Array.getElem?_eq_some_iff.1 hf).1
  have hy : xs[i]? = some (xs[i]'(by omega)) := List.getElem?_eq_getElem (by omega)
  have h := hfield i f hf
  rw [ho, hy, List.take_of_length_le (by simp; omega)] at h
  rw [each_at hf hy] at hw
  exact he.of h (fits_left hw)
theorem opens_cons {α β : Type} {d : Kd α} {ok : α → Prop} {d' : Kd β} {ok' : β → Prop} {fs : Array Field} {T i off off' : Nat} {f : Field} (hf : fs[i]? = some f) (ho : f.offset = off) (hT : off + P.cellsOf f.type = off') (he : Opens P f.type d ok)
    (hr : OpensFrom P fs T (i + 1) off' d' ok') : OpensFrom P fs T i off (Kd.pair d d') (fun x => ok x.1 ∧ ok' x.2) := by
  refine ⟨?_⟩
  intro H enc w fuel cs xs hl hxl hfield hw
  have hi : i < fs.size := (Array.getElem?_eq_some_iff.1 hf).1
  have hy : xs[i]? = some (xs[i]'(by omega)) := List.getElem?_eq_getElem (by omega)
  have h := hfield i f hf
  rw [ho, hy] at h
  rw [each_at hf hy] at hw
  obtain ⟨a, ha, hoa⟩ := he.of h (fits_left hw)
  obtain ⟨b, hb, hob⟩ := hr.of hl hxl hfield (fits_right hw)
  refine ⟨(a, b), ⟨_, _, ?_, ha, hb⟩, hoa, hob⟩
  rw [← hT, ← List.drop_drop, List.take_append_drop]
theorem opens_struct {α β : Type} {d : Kd α} {ok : α → Prop} {fs : Array Field} {T : Nat} (f : β → α) (g : α → β) (hfg : ∀ a, f (g a) = a) (ht : P.underlying t = some (.struct fs)) (hT : P.cellsOf t = T) (hr : OpensFrom P fs T 0 0 d ok) :
    Opens P t (Kd.iso d f) (fun b => ok (f b)) := by
  refine ⟨?_⟩
  intro H enc w fuel cs x h hw
  obtain ⟨xs, n, rfl, rfl, hl, hxl, hfield⟩ := DataW.trod_struct ht h
  simp only [DataW.weights, ht] at hw
  obtain ⟨a, ha, hoa⟩ := hr.of (hl.trans hT) hxl hfield (by simpa using hw)
  rw [List.drop_zero] at ha
  exact ⟨g a, by show d.K w (f (g a)) cs; rw [hfg]; exact ha, by show ok (f (g a)); rw [hfg]; exact hoa⟩
/-- An argument, opened. -/
theorem open_arg {α : Type} {d : Kd α} {ok : α → Prop} (ho : Opens P t d ok) {H : Type} {enc : TypeId × Value → H} {w : World} {v : Value} {x : DataW H} {ps : List MemPlace}
    (h : DataW.Trod enc P w 0 (fun _ => true) true t v x ps) {ts : List TypeId} {ds : List (DataW H)} {j : Nat} (hsz : (DataW.weightsEach P ts ds).all (· ≤ reachBytes) = true) (htj : ts[j]? = some t) (hdj : ds[j]? = some x) :
    ∃ a, d.K w a v.cells.toList ∧ ok a := by
  obtain ⟨fuel, hf⟩ := h
  refine ho.of hf ?_
  have hall := fits_of hsz
  clear hsz hf
  induction ts generalizing ds j with
  | nil => simp at htj
  | cons t0 ts ih =>
    cases ds with
    | nil => simp at hdj
    | cons d0 ds =>
      rw [DataW.weightsEach] at hall
      cases j with
      | zero => simp at htj hdj; subst htj hdj; exact fits_left hall
      | succ j => exact ih (by simpa using htj) (by simpa using hdj) (fits_right hall)
end
end Go.Proofs.Ytbakmkoppieelaa.Opens

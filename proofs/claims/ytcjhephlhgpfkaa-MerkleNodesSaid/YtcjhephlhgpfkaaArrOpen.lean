/- What is proved: an argument of sixteen arrays of 32 bytes reads as a list of 512 numbers below 256; the conditions stand in the theorems. -/
import Derived.Test.YtcjhephlhgpfkaaShaNode
import Derived.OpenShut
import Derived.ChangeSame
namespace Go.Proofs.Ytcjhephlhgpfkaa.Sha
open Go.RowKit Go.Proofs.YtcjhephlhgpfkaaW.PrintWords
set_option linter.unusedVariables false
set_option linter.unusedSimpArgs false
theorem okWide_array {P : Program} {W : World} {r : Reach} {base : Nat} {t : TypeId} {v : Value} {n : Nat} {e : TypeId} (ht : P.underlying t = some (.array n e)) (h : Value.okWide P W r base t v) : ∃ cs, v = .agg cs ∧ cs.size = P.cellsOf t := by
  simp only [Value.okWide, ht] at h
  obtain ⟨cs, h1, h2, _⟩ := h
  exact ⟨cs, h1, h2⟩
theorem bytes_of (cs : List Value) (h : ∀ j, j < cs.length → ∃ n : Int, cs[j]? = some (.int .u8 n) ∧ 0 ≤ n ∧ n ≤ 255) : ∃ D : List Int, cs = nums .u8 D ∧ ∀ x ∈ D, 0 ≤ x ∧ x ≤ 255 := by
  induction cs with
  | nil => exact ⟨[], rfl, fun x h => by cases h⟩
  | cons c cs ih =>
    obtain ⟨n, hn, h0⟩ := h 0 (by simp)
    simp at hn
    subst hn
    obtain ⟨D, rfl, hD⟩ := ih (fun j hj => by simpa using h (j + 1) (by simpa using hj))
    refine ⟨n :: D, rfl, fun x hx => ?_⟩
    rcases List.mem_cons.1 hx with rfl | hx
    · exact h0
    · exact hD x hx
section
variable {H : Type} {enc : TypeId × Value → H} {P : Program} {w : World} {base : Nat} {spare : Nat → Bool} {held : Bool} {fuel : Nat} {t e : TypeId} {cs : List Value} {x : DataW H × List MemPlace}
theorem arr_bytes {n : Nat} (ht : P.underlying t = some (.array n e)) (he : P.underlying e = some (.int .u8)) (hc : P.cellsOf e = 1) (hn : P.cellsOf t = n)
    (h : DataW.trod enc P w base spare held fuel t cs = some x) : cs.length = n ∧ ∀ j, j < n → ∃ m : Int, cs[j]? = some (.int .u8 m) ∧ 0 ≤ m ∧ m ≤ 255 := by
  obtain ⟨xs, m, -, -, hl, hxl, hel⟩ := DataW.trod_array ht h
  refine ⟨hl.trans hn, fun j hj => ?_⟩
  have h1 := hel j hj
  rw [List.getElem?_eq_getElem (by omega), hc, Nat.mul_one] at h1
  obtain ⟨q, h2, -, hw⟩ := DataW.trod_int he h1
  refine ⟨q, ?_, ?_⟩
  · have h3 : ((cs.drop j).take 1)[0]? = some (.int .u8 q) := by rw [h2]; rfl
    simpa using h3
  · simp [Lit.wf, IntKind.min, IntKind.max, IntKind.signed, IntKind.bits] at hw
    omega
theorem arr_arr {n k : Nat} {a : TypeId} (ha : P.underlying a = some (.array k t)) (hna : P.cellsOf a = k * n) (ht : P.underlying t = some (.array n e)) (he : P.underlying e = some (.int .u8)) (hc : P.cellsOf e = 1) (hn : P.cellsOf t = n) (h0 : 0 < n)
    (h : DataW.trod enc P w base spare held fuel a cs = some x) : cs.length = k * n ∧ ∀ j, j < k * n → ∃ m : Int, cs[j]? = some (.int .u8 m) ∧ 0 ≤ m ∧ m ≤ 255 := by
  obtain ⟨xs, m, -, -, hl, hxl, hel⟩ := DataW.trod_array ha h
  refine ⟨hl.trans hna, fun j hj => ?_⟩
  have hi : j / n < k := (Nat.div_lt_iff_lt_mul h0).2 hj
  have h1 := hel (j / n) hi
  rw [List.getElem?_eq_getElem (by omega), hn] at h1
  obtain ⟨-, h2⟩ := arr_bytes ht he hc hn h1
  obtain ⟨q, h3, h4⟩ := h2 (j % n) (Nat.mod_lt _ h0)
  refine ⟨q, ?_, h4⟩
  rw [List.getElem?_take, if_pos (Nat.mod_lt _ h0), List.getElem?_drop] at h3
  rw [← h3, Nat.mul_comm, Nat.div_add_mod]
end
theorem open_d512 {H : Type} {enc : TypeId × Value → H} {w : World} {d : DataW H} {p : List MemPlace} {c : Array Value} (h : DataW.Trod enc Try.prog w 0 (fun _ => true) true 24 (.agg c) d p) :
    ∃ D : List Int, c = D512 D ∧ D.length = 512 ∧ ∀ x ∈ D, 0 ≤ x ∧ x ≤ 255 := by
  obtain ⟨m, hm⟩ := h
  obtain ⟨hl, hb⟩ := arr_arr (k := 16) (n := 32) Try.underlying24 (by kernel_rfl) Try.underlying23 Try.underlying5 (by kernel_rfl) (by kernel_rfl) (by decide) hm
  obtain ⟨D, h1, h2⟩ := bytes_of _ (fun j hj => hb j (by omega))
  refine ⟨D, ?_, ?_, h2⟩
  · apply Array.ext'
    exact h1
  · have := congrArg List.length h1
    rw [hl] at this
    simpa [nums] using this.symm
end Go.Proofs.Ytcjhephlhgpfkaa.Sha

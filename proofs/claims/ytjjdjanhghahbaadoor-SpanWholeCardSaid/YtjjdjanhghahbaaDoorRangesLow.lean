/- What is proved: what the printed Of and least answer at any bucket of a depth that there is; the conditions stand in the theorems. -/
import Derived.Test.YtjjdjanhghahbaaDoorPSpanWholex4
import Derived.Test.YtjjdjanhghahbaaDoorRuns
namespace Go.Proofs.YtjjdjanhghahbaaDoor.RangesLow
open Go.RowKit Go.Proofs.YtjjdjanhghahbaaDoor.PSpanWhole Go.Proofs.YtjjdjanhghahbaaDoorW.PrintWords Go.Proofs.YtjjdjanhghahbaaDoorW.PrintLast
set_option linter.unusedVariables false
set_option linter.unusedSimpArgs false
def lowN (d : Int) (x : Nat) : List Nat := if x = 0 then [] else if d = 1 then [x * 16] else if d = 2 then [x] else if x % 16 = 0 then [x / 16] else [x / 16, x % 16 * 16]
def lowL (d : Int) (x : Nat) : List UInt8 := (lowN d x).map UInt8.ofNat
def okAt (d : Int) (b : Nat) : Bool := match span_least.f d b with
  | some x => x.data.toList == lowL d b
  | _ => false
theorem least_1 : (List.range 16).all (okAt 1) = true := by decide +kernel
theorem least_2 : (List.range 256).all (okAt 2) = true := by decide +kernel
theorem least_3 : (List.range 4096).all (okAt 3) = true := by decide +kernel
def mkB (l : List UInt8) : ByteArray := ⟨l.toArray⟩
theorem mkB_list (l : List UInt8) : (mkB l).toList = l := by rw [ByteArray.toList_eq]; simp [mkB]
theorem eq_mkB {x : ByteArray} {l : List UInt8} (h : x.data.toList = l) : x = mkB l := by
  subst h
  cases x
  simp [mkB]
theorem ok_of {d : Int} {b : Nat} (h : okAt d b = true) : span_least.f d b = some (mkB (lowL d b)) := by
  unfold okAt at h
  split at h
  · rename_i x h1
    rw [h1, eq_mkB (eq_of_beq h)]
  · cases h
def cntN (d : Int) : Nat := if d = 1 then 16 else if d = 2 then 256 else 4096
theorem leasts (d : Int) (b : Nat) (hd : d = 1 ∨ d = 2 ∨ d = 3) (h : b < cntN d) : span_least.f d b = some (mkB (lowL d b)) := by
  rcases hd with rfl | rfl | rfl
  · exact ok_of (List.all_eq_true.1 least_1 b (List.mem_range.2 h))
  · exact ok_of (List.all_eq_true.1 least_2 b (List.mem_range.2 h))
  · exact ok_of (List.all_eq_true.1 least_3 b (List.mem_range.2 h))
theorem count_in (d : Int) (hd : d = 1 ∨ d = 2 ∨ d = 3) : span_count.f 6 d = some (cntN d : Int) ∧ 0 < cntN d ∧ cntN d ≤ 4096 ∧ cntD d = cntN d := by
  rcases hd with rfl | rfl | rfl <;> exact ⟨by decide +kernel, by decide, by decide, by decide⟩
theorem count_up (d r : Int) (h : span_count.f 6 d = some r) : ∀ n, span_count.f (6 + n) d = some r
  | 0 => h
  | n + 1 => span_count.mono d (6 + n) _ (count_up d r h n)
def hiL (d : Int) (b : Nat) : List UInt8 := if b + 1 < cntN d then lowL d (b + 1) else []
theorem w_succ (x : Nat) (h : x ≤ 4096) : wrap64 ((x : Int) + 1) = ((x + 1 : Nat) : Int) := IntWalk.wrap64_in _ (by omega)
theorem of_at (d : Int) (x : Nat) (hd : d = 1 ∨ d = 2 ∨ d = 3) (hx : x < cntN d) : ∀ n, span_Of.f (6 + n) d x = some (mkB (lowL d x), mkB (hiL d x), 0)
  | 0 => by
    obtain ⟨c1, c2, c3, c4⟩ := count_in d hd
    have hq : span_least.f d ((x + 1 : Nat) : Int) = some (mkB (hiL d x)) := by
      unfold hiL
      by_cases h3 : x + 1 < cntN d
      · rw [if_pos h3]
        exact (leasts d (x + 1) hd h3)
      · rw [if_neg h3]
        unfold span_least.f
        rw [if_pos ⟨hd, by omega⟩, if_pos (by omega)]
        rfl
    unfold span_Of.f
    rw [c1, Option.bind_some, if_neg (by omega), if_neg (by omega), show decide ((x : Int) ≥ (cntN d : Int)) = false from decide_eq_false (by omega)]
    simp only [span_Of.j0, Bool.false_eq_true, if_false]
    rw [w_succ x (by omega), (leasts d x hd hx), Option.bind_some, hq]
    rfl
  | n + 1 => span_Of.mono d x (6 + n) _ (of_at d x hd hx n)
theorem of_bad (d b : Int) (hd : d = 1 ∨ d = 2 ∨ d = 3) (hb : b < 0 ∨ (cntN d : Int) ≤ b) : ∀ n, span_Of.f (6 + n) d b = some ((⟨#[]⟩ : ByteArray), (⟨#[]⟩ : ByteArray), 62)
  | 0 => by
    obtain ⟨c1, c2, c3, c4⟩ := count_in d hd
    unfold span_Of.f
    rw [c1, Option.bind_some, if_neg (by omega)]
    by_cases h : b < 0
    · rw [if_pos h]; rfl
    · rw [if_neg h, show decide (b ≥ (cntN d : Int)) = true from decide_eq_true (by omega)]; rfl
  | n + 1 => span_Of.mono d b (6 + n) _ (of_bad d b hd hb n)
theorem ofN (n : Nat) (h : n < 256) : (UInt8.ofNat n).toNat = n := by
  rw [UInt8.toNat_ofNat']; omega
theorem low_lt (d : Int) (x y : Nat) (hd : d = 1 ∨ d = 2 ∨ d = 3) (hx : x < cntN d) (hy : y < cntN d) : lessB (lowL d x) (lowL d y) = true ↔ x < y := by
  have one : ∀ a b : Nat, a < 256 → b < 256 → (lessB [UInt8.ofNat a] [UInt8.ofNat b] = true ↔ a < b) := by
    intro a b ha hb
    rw [lessB_cons, lessB_nil, ofN a ha, ofN b hb]
    simp
  by_cases y0 : y = 0
  · subst y0
    simp [lowL, lowN, lessB_nil]
  · by_cases x0 : x = 0
    · subst x0
      have hne : lowL d y ≠ [] := by
        unfold lowL lowN
        rw [if_neg y0]
        repeat' split
        all_goals simp
      have hx : lowL d 0 = [] := by simp [lowL, lowN]
      rw [hx]
      cases h : lowL d y with
      | nil => exact absurd h hne
      | cons a r => simp [nil_lessB]; omega
    · rcases hd with rfl | rfl | rfl
      · have hx' : x < 16 := hx
        have hy' : y < 16 := hy
        have e1 : lowL 1 x = [UInt8.ofNat (x * 16)] := by simp [lowL, lowN, x0]
        have e2 : lowL 1 y = [UInt8.ofNat (y * 16)] := by simp [lowL, lowN, y0]
        rw [e1, e2, one _ _ (by omega) (by omega)]
        omega
      · have hx' : x < 256 := hx
        have hy' : y < 256 := hy
        have e1 : lowL 2 x = [UInt8.ofNat x] := by simp [lowL, lowN, x0]
        have e2 : lowL 2 y = [UInt8.ofNat y] := by simp [lowL, lowN, y0]
        rw [e1, e2, one _ _ (by omega) (by omega)]
      · have hx' : x < 4096 := hx
        have hy' : y < 4096 := hy
        have a1 := ofN (x / 16) (by omega)
        have a2 := ofN (x % 16 * 16) (by omega)
        have b1 := ofN (y / 16) (by omega)
        have b2 := ofN (y % 16 * 16) (by omega)
        by_cases hx1 : x % 16 = 0
        · have e1 : lowL 3 x = [UInt8.ofNat (x / 16)] := by simp [lowL, lowN, x0, hx1]
          by_cases hy1 : y % 16 = 0
          · have e2 : lowL 3 y = [UInt8.ofNat (y / 16)] := by simp [lowL, lowN, y0, hy1]
            rw [e1, e2, one _ _ (by omega) (by omega)]
            omega
          · have e2 : lowL 3 y = [UInt8.ofNat (y / 16), UInt8.ofNat (y % 16 * 16)] := by simp [lowL, lowN, y0, hy1]
            rw [e1, e2, lessB_cons, nil_lessB, a1, b1]
            simp
            omega
        · have e1 : lowL 3 x = [UInt8.ofNat (x / 16), UInt8.ofNat (x % 16 * 16)] := by simp [lowL, lowN, x0, hx1]
          by_cases hy1 : y % 16 = 0
          · have e2 : lowL 3 y = [UInt8.ofNat (y / 16)] := by simp [lowL, lowN, y0, hy1]
            rw [e1, e2, lessB_cons, lessB_nil, a1, b1]
            simp
            omega
          · have e2 : lowL 3 y = [UInt8.ofNat (y / 16), UInt8.ofNat (y % 16 * 16)] := by simp [lowL, lowN, y0, hy1]
            rw [e1, e2, lessB_cons, lessB_cons, lessB_nil, a1, a2, b1, b2]
            simp
            omega
theorem low_nil (d : Int) (x : Nat) : lowL d x = [] ↔ x = 0 := by
  unfold lowL lowN
  by_cases h : x = 0
  · simp [h]
  · rw [if_neg h]
    repeat' split
    all_goals simp [h]
end Go.Proofs.YtjjdjanhghahbaaDoor.RangesLow

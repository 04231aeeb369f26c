/- What is proved: contracts of the functions that the law uses, each under the conditions that its theorem states. Written by a program of this session: texts of the kit's print, and texts by hand for the functions that the print does not take. -/
import Derived.Test.YtmjmjjhfficilaaDoorPSpanBackx0
namespace Go.Proofs.YtmjmjjhfficilaaDoor.PSpanBack
open Go.RowKit Go.Proofs.YtmjmjjhfficilaaDoorW.PrintWords Go.Proofs.YtmjmjjhfficilaaDoorW.PrintLast Go.Proofs.YtmjmjjhfficilaaDoorW.PrintMore
attribute [local go_sem] max2_int min2_int max_two min_two max_three min_three max_four min_four   -- for this text's walks alone
set_option linter.unusedVariables false
set_option linter.unusedSimpArgs false

/-! ### sort_Ints: function 28 -/
/-! #### sort.Ints off the shelf -/
/-- The numbers, rising. -/
def sortZ (l : List Int) : List Int := l.mergeSort fun x y => decide (x ≤ y)
theorem sortZ_len (l : List Int) : (sortZ l).length = l.length := by simp [sortZ]
open Go.Shelf Go.Lib Go.Sort in
theorem sortI_some (w : World) (g cap : Nat) (l : List Int) (cur : Array Value) (hh : w.heap[g]? = some (.cells cur 3 (0, 0))) (hcur : ∀ (j : Nat) (p : Int), l[j]? = some p → cur[j]? = some (Value.int .i64 p)) (hn : l.length ≤ 4294967296) :
    Calls Tryd.prog 28 #[.slice (some ⟨g, 0, none⟩) l.length cap] w fun e w' => e = .returned (.tuple #[]) ∧ (∃ cur', w'.heap[g]? = some (.cells cur' 3 (0, 0)) ∧ cur'.size = cur.size ∧ ∀ (j : Nat) (p : Int), (sortZ l)[j]? = some p → cur'[j]? = some (Value.int .i64 p)) ∧ w.heap.size ≤ w'.heap.size ∧ (∀ i, i < w.heap.size → i ≠ g → w'.heap[i]? = w.heap[i]?) ∧ (∀ base, base ≤ g → base ≤ w.heap.size → Go.RowKit.Below base w w') := by
  have hlt : g < w.heap.size := by rcases Nat.lt_or_ge g w.heap.size with h | h; exact h; rw [Array.getElem?_eq_none h] at hh; cases hh
  have hH : Holds (Value.int .i64) w g 0 l.toArray := by
    intro j hj
    have hj' : j < l.length := by simpa using hj
    rw [Nat.zero_add]
    refine ⟨?_, frozen_of_row w g j _ _ hh⟩
    rw [cell_of_row w g j _ _ _ hh, hcur j l[j] (List.getElem?_eq_getElem hj')]
    have e3 : l.toArray[j]! = l[j] := by simp [hj']
    rw [e3]
  have hcon := Any.sort_Ints Tryd.sortI g 0 cap (l) w hH hlt (by omega)
  change Calls Tryd.prog 28 _ _ _ at hcon
  refine hcon.mono ?_
  rintro e w' ⟨rfl, n, os, rfl⟩
  have hsz : (l.mergeSort fun x y => decide (x ≤ y)).length = l.length := by simp
  have hb : ∀ i, i < w.heap.size → (grow (putRow (Value.int .i64) (Sort.ahead w n) g 0 (l.mergeSort fun x y => decide (x ≤ y)).toArray) os).heap[i]? = if g = i then (w.heap[i]?).map (onCells (putCells (Value.int .i64) 0 (l.mergeSort fun x y => decide (x ≤ y)).toArray)) else w.heap[i]? := by
    intro i hi
    unfold grow putRow mapBlock
    simp only
    have hz : (Sort.ahead w n).heap = w.heap := rfl
    rw [hz, Array.getElem?_append_left (by simp; omega), Array.getElem?_modify]
  have hzz : w.heap.size ≤ (grow (putRow (Value.int .i64) (Sort.ahead w n) g 0 (l.mergeSort fun x y => decide (x ≤ y)).toArray) os).heap.size := by
    unfold grow putRow mapBlock
    have hz : (Sort.ahead w n).heap = w.heap := rfl
    simp [hz]
  refine ⟨rfl, ⟨putCells (Value.int .i64) 0 (l.mergeSort fun x y => decide (x ≤ y)).toArray cur, ?_, by simp [putCells], fun j p hj => ?_⟩, hzz, fun i hi hne => ?_, fun base h1 h2 => ⟨rfl, rfl, rfl, hzz, fun k hk => ?_⟩⟩
  · rw [hb g hlt, if_pos rfl, hh]; rfl
  · have hjl : j < l.length := by
      rcases Nat.lt_or_ge j (sortZ l).length with h | h
      · rw [sortZ_len] at h; exact h
      · rw [List.getElem?_eq_none h] at hj; cases hj
    have hjc : j < cur.size := by
      have h := hcur j l[j] (List.getElem?_eq_getElem hjl)
      rcases Nat.lt_or_ge j cur.size with h2 | h2
      · exact h2
      · rw [Array.getElem?_eq_none h2] at h; cases h
    unfold putCells
    rw [Array.getElem?_mapIdx, Array.getElem?_eq_getElem hjc]
    have hj2 : j < (l.mergeSort fun x y => decide (x ≤ y)).length := by rw [hsz]; exact hjl
    simp only [Option.map_some]
    rw [if_pos ⟨Nat.zero_le _, by simpa using hjl⟩]
    unfold sortZ at hj
    rw [List.getElem?_eq_getElem hj2] at hj
    injection hj with hj
    subst hj
    simp only [Nat.sub_zero]
    show some (Value.int .i64 (((l.mergeSort fun x y => decide (x ≤ y)).toArray[j]!))) = _
    rw [show (l.mergeSort fun x y => decide (x ≤ y)).toArray[j]! = (l.mergeSort fun x y => decide (x ≤ y))[j] from by rw [getElem!_pos _ j (by simpa using hj2)]; rfl]
  · rw [hb i hi, if_neg (fun h => hne h.symm)]
  · rw [hb k (by omega), if_neg (by omega)]
def sort_Ints.f (l0 : List Int) : Option (List Int) := if l0.length ≤ 4294967296 then some (sortZ l0) else none
open Go.Shelf Go.Lib Go.Sort in
theorem sort_Ints.calls (P0_ : Nat → Prop) (u9000_ : Value) (l0 : List Int) (r : List Int) (w0 w : World) (hB : Go.RowKit.Below w0.heap.size w0 w) (ho0 : Kd.R (Kd.int .i64) 3 w w0.heap.size P0_ u9000_ l0) (h : sort_Ints.f l0 = some r) :
    Calls Tryd.prog 28 #[u9000_] w fun e w' => e = .returned (.tuple #[]) ∧ Kd.R (Kd.int .i64) 3 w' w0.heap.size (fun k_ => (P0_ k_ ∨ w.heap.size ≤ k_)) u9000_ r ∧ Go.RowKit.Below w0.heap.size w0 w' ∧ Kept w w' (fun k_ => P0_ k_) := by
  unfold sort_Ints.f at h
  split at h
  · rename_i hn
    injection h with h
    subst h
    obtain ⟨hok, inner, ho, hreps⟩ := ho0
    have hs1 : (Kd.int .i64).sz = 1 := rfl
    rcases ho.2 with ⟨hv, h0⟩ | ⟨g, cap, cur, hv, hg, hh, h1, h2, h3, ht⟩
    · have hl : l0 = [] := List.eq_nil_of_length_eq_zero h0
      subst hl
      subst hv
      have hcon := Any.sort_Ints_none Tryd.sortI none 0 w
      change Calls Tryd.prog 28 _ _ _ at hcon
      refine hcon.mono ?_
      rintro e w' ⟨rfl, rfl⟩
      exact ⟨rfl, by rw [show sortZ [] = [] from List.eq_nil_of_length_eq_zero (sortZ_len [])]; exact Kd.R_nil _ _ _ _ _, hB, Kept.refl _ _⟩
    · subst hv
      rw [hs1] at ht h3
      have hil : inner.length = l0.length * 1 := by rw [hreps.1, hs1]
      have hcur : ∀ (j : Nat) (p : Int), l0[j]? = some p → cur[j]? = some (Value.int .i64 p) := by
        intro j p hj
        have hjl : j < l0.length := by
          rcases Nat.lt_or_ge j l0.length with h | h
          · exact h
          · rw [List.getElem?_eq_none h] at hj; cases hj
        have hK := hreps.2 j p hj
        rw [hs1] at hK
        have hK2 : (inner.drop (j * 1)).take 1 = [.int .i64 p] := hK
        have e1 : inner[j]? = some (.int .i64 p) := by
          have e2 : ((inner.drop (j * 1)).take 1)[0]? = some (.int .i64 p) := by rw [hK2]; rfl
          rw [List.getElem?_take, if_pos (by omega), List.getElem?_drop] at e2
          simpa using e2
        rw [← ht, List.getElem?_take, if_pos (by omega)] at e1
        rw [← e1]; simp
      refine (sortI_some w g cap l0 cur hh hcur hn).mono ?_
      rintro e w' ⟨rfl, ⟨cur', hh', hsz, hc'⟩, hz, hoth, hbel⟩
      refine ⟨rfl, ⟨fun k hk => .inl (hok k hk), cur'.toList.take (l0.length * 1), ⟨?_, .inr ⟨g, cap, cur', by rw [sortZ_len], hg, hh', by rw [sortZ_len]; exact h1, h2, by rw [hsz]; exact h3, by rw [sortZ_len, hs1]⟩⟩, ?_, fun j p hj => ?_⟩, hB.trans (hbel _ hg hB.size), hz, fun i hi hne => hoth i hi (fun e => hne (by subst e; exact hok i (by simp [Value.ownBlock])))⟩
      · rw [sortZ_len, hs1, List.length_take, show cur'.toList.length = cap * 1 from by rw [Array.length_toList, hsz]; exact h3]; omega
      · rw [sortZ_len, hs1, List.length_take, show cur'.toList.length = cap * 1 from by rw [Array.length_toList, hsz]; exact h3]; omega
      · have hjl : j < l0.length := by
          rcases Nat.lt_or_ge j (sortZ l0).length with h | h
          · rw [sortZ_len] at h; exact h
          · rw [List.getElem?_eq_none h] at hj; cases hj
        have h5 := hc' j p hj
        show (((cur'.toList.take (l0.length * 1)).drop (j * (Kd.int .i64).sz)).take (Kd.int .i64).sz) = [.int .i64 p]
        rw [hs1]
        apply List.ext_getElem?
        intro q
        rw [List.getElem?_take]
        split
        · rename_i hq
          obtain rfl : q = 0 := by omega
          rw [List.getElem?_drop, List.getElem?_take, if_pos (by omega), Array.getElem?_toList]
          simpa using h5
        · rw [List.getElem?_eq_none (by simp; omega)]
  · cases h

/-! ### hawserlaw06_normal: function 29 -/
mutual
def hawserlaw06_normal.l0 : Nat → List (S27) → Int → Option (Bool)
  | 0, _, _ => none
  | k + 1, x0, x3 => if x3 < (x0.length : Int) then (if 0 ≤ x3 then (if ((rd_T27 x0 x3).f1).toList = ([] : List UInt8) then (hawserlaw06_normal.j1 k x0 x3 false) else (hawserlaw06_normal.j1 k x0 x3 (!(Op.bytesLess (((rd_T27 x0 x3).f0).toList) (((rd_T27 x0 x3).f1).toList))))) else (none)) else (some true)
def hawserlaw06_normal.j1 : Nat → List (S27) → Int → Bool → Option (Bool)
  | 0, _, _, _ => none
  | k + 1, x0, x3, x28 => if x28 = true then (some false) else (if (wrap64 (x3 + 1)) < (x0.length : Int) then (if 0 ≤ x3 then (if x3 < (x0.length : Int) then (if ((rd_T27 x0 x3).f1).toList = ([] : List UInt8) then (some false) else (if 0 ≤ (wrap64 (x3 + 1)) then (if ((Op.bytesLess (((rd_T27 x0 x3).f1).toList) (((rd_T27 x0 (wrap64 (x3 + 1))).f0).toList)) = true) then (hawserlaw06_normal.l0 k x0 (wrap64 (x3 + 1))) else (some false)) else (none))) else (none)) else (none)) else (hawserlaw06_normal.l0 k x0 (wrap64 (x3 + 1))))
end
def hawserlaw06_normal.f (k : Nat) (l0 : List (S27)) : Option (Bool) := hawserlaw06_normal.l0 k l0 0
theorem hawserlaw06_normal.mono_l : ∀ k, (∀ y0 y1, LeO (hawserlaw06_normal.l0 k y0 y1) (hawserlaw06_normal.l0 (k + 1) y0 y1)) ∧ (∀ y0 y1 y2, LeO (hawserlaw06_normal.j1 k y0 y1 y2) (hawserlaw06_normal.j1 (k + 1) y0 y1 y2))
  | 0 => ⟨fun _ _ r h => by simp [hawserlaw06_normal.l0] at h, fun _ _ _ r h => by simp [hawserlaw06_normal.j1] at h⟩
  | k + 1 => by
    obtain ⟨ih0, ih1⟩ := hawserlaw06_normal.mono_l k
    refine ⟨?_, ?_⟩
    · intro y0 y1
      unfold hawserlaw06_normal.l0
      repeat' first
      | (with_reducible exact ih0 _ _)
      | (with_reducible exact ih1 _ _ _)
      | (with_reducible exact LeO.refl _)
      | (with_reducible exact LeO.none _)
      | (with_reducible refine LeO.ite ?_ ?_)
      | (with_reducible refine LeO.bind ?_ (fun _ => ?_))
      | exact ih0 _ _
      | exact ih1 _ _ _
      | exact LeO.none _
      | refine LeO.ite ?_ ?_
      | refine LeO.bind ?_ (fun _ => ?_)
    · intro y0 y1 y2
      unfold hawserlaw06_normal.j1
      repeat' first
      | (with_reducible exact ih0 _ _)
      | (with_reducible exact ih1 _ _ _)
      | (with_reducible exact LeO.refl _)
      | (with_reducible exact LeO.none _)
      | (with_reducible refine LeO.ite ?_ ?_)
      | (with_reducible refine LeO.bind ?_ (fun _ => ?_))
      | exact ih0 _ _
      | exact ih1 _ _ _
      | exact LeO.none _
      | refine LeO.ite ?_ ?_
      | refine LeO.bind ?_ (fun _ => ?_)
theorem hawserlaw06_normal.mono : ∀ a0 k, LeO (hawserlaw06_normal.f k a0) (hawserlaw06_normal.f (k + 1) a0) := by
  intro a0 k
  obtain ⟨ih0, ih1⟩ := hawserlaw06_normal.mono_l k
  unfold hawserlaw06_normal.f
  repeat' first
      | (with_reducible exact ih0 _ _)
      | (with_reducible exact ih1 _ _ _)
      | (with_reducible exact LeO.refl _)
      | (with_reducible exact LeO.none _)
      | (with_reducible refine LeO.ite ?_ ?_)
      | (with_reducible refine LeO.bind ?_ (fun _ => ?_))
      | exact ih0 _ _
      | exact ih1 _ _ _
      | exact LeO.none _
      | refine LeO.ite ?_ ?_
      | refine LeO.bind ?_ (fun _ => ?_)
set_option maxHeartbeats 8000000 in
set_option maxRecDepth 100000 in
theorem hawserlaw06_normal.calls (k : Nat) (A0 : Option Addr) (c0 : Nat) (l0 : List (S27)) (r : Bool) (w : World) (hr0 : Kd.C k27 w A0 l0.length l0) (hc0 : l0.length ≤ c0) (h : hawserlaw06_normal.f k l0 = some r) :
    Calls Tryd.prog 29 #[.slice A0 l0.length c0] w fun e w' => e = .returned (.bool r) ∧ Drawn0 w w' := by
  have HR0 := Aside0.mk hr0
  have HC0 := Aside0.mk hc0
  clear hr0 hc0
  have H : (hawserlaw06_normal.l0 k l0 0) = some r := h
  clear h
  have H' := Aside0.mk H
  clear H
  go_enter Tryd.func29, Tryd.ntmps29
  go_wp2
  repeat (go_quiet (fail); try go_wp2)
  go_loopg [3] k (fun kq v3 w' => ∃ (x3_1 : Int), v3 = .int .i64 x3_1 ∧ Aside0 (hawserlaw06_normal.l0 kq l0 x3_1 = some r) ∧ Aside0 (kq ≤ k) ∧ Drawn0 w w')
  case atStart => exact ⟨(0), (by first | rfl | (simp; done) | (simp [*]; done)), H', ⟨Nat.le_refl _⟩, by repeat (first | exact Drawn0.refl _ | apply Drawn0.step)⟩
  case round =>
    clear H'
    obtain ⟨x3_1, rfl, HA, HK1, ⟨m1, rfl⟩⟩ := hrel
    cases gk with
    | zero => exact absurd HA.out (by simp [hawserlaw06_normal.l0])
    | succ k1 =>
      have H := HA.out
      clear HA
      simp only [hawserlaw06_normal.l0] at H
      by_cases c2 : x3_1 < (l0.length : Int)
      · rw [if_pos c2] at H
        have c2b0 : decide (x3_1 < (l0.length : Int)) = true := decide_eq_true c2
        clear c2
        have HC3 := Aside0.mk H
        clear H
        go_upto_region 4 with (fail)
        repeat (go_quiet (fail); go_upto_region 4 with (fail))
        go_cut [28] (fun v28 wc => ∃ (kq : Nat) (x28_2 : Bool), v28 = .bool x28_2 ∧ Aside0 (hawserlaw06_normal.j1 kq l0 x3_1 x28_2 = some r) ∧ Aside0 (kq ≤ k1) ∧ Drawn0 w wc)
        case first =>
          have H := HC3.out
          clear HC3
          by_cases c4 : 0 ≤ x3_1
          · rw [if_pos c4] at H
            have c4b0 : decide (0 ≤ x3_1) = true := decide_eq_true c4
            clear c4
            (first | rw [c4b0] | (simp only [i64_w, i32_w]; rw [c4b0]) | skip)
            by_cases c5 : ((rd_T27 l0 x3_1).f1).toList = ([] : List UInt8)
            · rw [if_pos c5] at H
              have c5b0 : (((rd_T27 l0 x3_1).f1).toList == ([] : List UInt8)) = true := beq_iff_eq.mpr c5
              have c5b1 : (((rd_T27 l0 x3_1).f1).toList != ([] : List UInt8)) = false := bne_eq_false_iff_eq.mpr c5
              clear c5
              have H' := Aside0.mk H
              clear H
              have p147 : 0 ≤ (x3_1 : Int) := of_decide_eq_true (by first | (with_reducible assumption) | assumption)
              have q147 : x3_1 < (l0.length : Int) := of_decide_eq_true (by first | (with_reducible assumption) | assumption)
              obtain ⟨ad147, e147, hx147_0, hx147_1⟩ := at_T27 HR0.out x3_1 p147 q147
              cases e147
              replace p147 := eq_true p147
              replace q147 := eq_true q147
              go_wp2
              repeat (go_quiet (fail); try go_wp2)
              go_meet
              case rel => exact ⟨_, (false), (by first | rfl | (simp; done) | (simp [*]; done)), H', ⟨by have := HK1.out; first | omega | exact Nat.le_refl _⟩, by repeat (first | exact Drawn0.refl _ | apply Drawn0.step)⟩
            · rw [if_neg c5] at H
              have c5b0 : (((rd_T27 l0 x3_1).f1).toList == ([] : List UInt8)) = false := beq_eq_false_iff_ne.mpr c5
              have c5b1 : (((rd_T27 l0 x3_1).f1).toList != ([] : List UInt8)) = true := bne_iff_ne.mpr c5
              have H' := Aside0.mk H
              clear H
              have p147 : 0 ≤ (x3_1 : Int) := of_decide_eq_true (by first | (with_reducible assumption) | assumption)
              have q147 : x3_1 < (l0.length : Int) := of_decide_eq_true (by first | (with_reducible assumption) | assumption)
              obtain ⟨ad147, e147, hx147_0, hx147_1⟩ := at_T27 HR0.out x3_1 p147 q147
              cases e147
              replace p147 := eq_true p147
              replace q147 := eq_true q147
              have p148 : 0 ≤ (x3_1 : Int) := of_decide_eq_true (by first | (with_reducible assumption) | assumption)
              have q148 : x3_1 < (l0.length : Int) := of_decide_eq_true (by first | (with_reducible assumption) | assumption)
              obtain ⟨ad148, e148, hx148_0, hx148_1⟩ := at_T27 HR0.out x3_1 p148 q148
              obtain rfl : ad147 = ad148 := (by injection e148)
              replace p148 := eq_true p148
              replace q148 := eq_true q148
              have p149 : 0 ≤ (x3_1 : Int) := of_decide_eq_true (by first | (with_reducible assumption) | assumption)
              have q149 : x3_1 < (l0.length : Int) := of_decide_eq_true (by first | (with_reducible assumption) | assumption)
              obtain ⟨ad149, e149, hx149_0, hx149_1⟩ := at_T27 HR0.out x3_1 p149 q149
              obtain rfl : ad147 = ad149 := (by injection e149)
              replace p149 := eq_true p149
              replace q149 := eq_true q149
              go_wp2
              repeat (go_quiet (fail); try go_wp2)
              go_meet
              case rel => exact ⟨_, (!(Op.bytesLess (((rd_T27 l0 x3_1).f0).toList) (((rd_T27 l0 x3_1).f1).toList))), (by first | rfl | (simp; done) | (simp [*]; done)), H', ⟨by have := HK1.out; first | omega | exact Nat.le_refl _⟩, by repeat (first | exact Drawn0.refl _ | apply Drawn0.step)⟩
          · rw [if_neg c4] at H
            exact absurd H (by simp)
        case rest =>
          clear HC3
          try clear p1
          try clear q1
          try clear hx1
          try clear c2
          try clear c2b0
          try clear p2
          try clear c4
          try clear c4b0
          try clear c5
          try clear c5b0
          try clear c5b1
          try clear hx147_0
          try clear hx147_1
          try clear hx148_0
          try clear hx148_1
          try clear hx149_0
          try clear hx149_1
          try clear p147
          try clear p148
          try clear p149
          try clear q147
          try clear q148
          try clear q149
          obtain ⟨kq, x28_2, rfl, HA, HJ2, ⟨mc2, rfl⟩⟩ := hcut
          cases kq with
          | zero => exact absurd HA.out (by simp [hawserlaw06_normal.j1])
          | succ kj2 =>
            have H := HA.out
            clear HA
            simp only [hawserlaw06_normal.j1] at H
            by_cases c6 : x28_2 = true
            · subst c6
              have H1 : (some false) = some r := by rw [if_pos rfl] at H; exact H
              clear H
              have H := H1
              clear H1
              obtain rfl := Option.some.inj H
              go_wp2
              repeat (go_quiet (fail); try go_wp2)
              go_ret
              exact ⟨by first | rfl | (simp; done) | (simp [*]; done), by repeat (first | exact Drawn0.refl _ | apply Drawn0.step)⟩
            · replace c6 := Bool.eq_false_iff.mpr c6
              subst c6
              have H1 : (if (wrap64 (x3_1 + 1)) < (l0.length : Int) then (if 0 ≤ x3_1 then (if x3_1 < (l0.length : Int) then (if ((rd_T27 l0 x3_1).f1).toList = ([] : List UInt8) then (some false) else (if 0 ≤ (wrap64 (x3_1 + 1)) then (if ((Op.bytesLess (((rd_T27 l0 x3_1).f1).toList) (((rd_T27 l0 (wrap64 (x3_1 + 1))).f0).toList)) = true) then (hawserlaw06_normal.l0 kj2 l0 (wrap64 (x3_1 + 1))) else (some false)) else (none))) else (none)) else (none)) else (hawserlaw06_normal.l0 kj2 l0 (wrap64 (x3_1 + 1)))) = some r := by rw [if_neg (show ¬ (false = true) by decide)] at H; exact H
              clear H
              have H := H1
              clear H1
              by_cases c7 : (wrap64 (x3_1 + 1)) < (l0.length : Int)
              · rw [if_pos c7] at H
                have c7b0 : decide ((wrap64 (x3_1 + 1)) < (l0.length : Int)) = true := decide_eq_true c7
                clear c7
                by_cases c8 : 0 ≤ x3_1
                · rw [if_pos c8] at H
                  have c8b0 : decide (0 ≤ x3_1) = true := decide_eq_true c8
                  clear c8
                  by_cases c9 : x3_1 < (l0.length : Int)
                  · rw [if_pos c9] at H
                    have c9b0 : decide (x3_1 < (l0.length : Int)) = true := decide_eq_true c9
                    clear c9
                    by_cases c10 : ((rd_T27 l0 x3_1).f1).toList = ([] : List UInt8)
                    · rw [if_pos c10] at H
                      have c10b0 : (((rd_T27 l0 x3_1).f1).toList == ([] : List UInt8)) = true := beq_iff_eq.mpr c10
                      have c10b1 : (((rd_T27 l0 x3_1).f1).toList != ([] : List UInt8)) = false := bne_eq_false_iff_eq.mpr c10
                      clear c10
                      obtain rfl := Option.some.inj H
                      have p150 : 0 ≤ (x3_1 : Int) := of_decide_eq_true (by first | (with_reducible assumption) | assumption)
                      have q150 : x3_1 < (l0.length : Int) := of_decide_eq_true (by first | (with_reducible assumption) | assumption)
                      obtain ⟨ad150, e150, hx150_0, hx150_1⟩ := at_T27 HR0.out x3_1 p150 q150
                      cases e150
                      replace p150 := eq_true p150
                      replace q150 := eq_true q150
                      go_wp2
                      repeat (go_quiet (fail); try go_wp2)
                      go_ret
                      exact ⟨by first | rfl | (simp; done) | (simp [*]; done), by repeat (first | exact Drawn0.refl _ | apply Drawn0.step)⟩
                    · rw [if_neg c10] at H
                      have c10b0 : (((rd_T27 l0 x3_1).f1).toList == ([] : List UInt8)) = false := beq_eq_false_iff_ne.mpr c10
                      have c10b1 : (((rd_T27 l0 x3_1).f1).toList != ([] : List UInt8)) = true := bne_iff_ne.mpr c10
                      obtain ⟨ji11, hji11⟩ : ∃ j_ : Int, (wrap64 (x3_1 + 1)) = j_ := ⟨_, rfl⟩
                      replace H : (if 0 ≤ (ji11) then (if ((Op.bytesLess (((rd_T27 l0 x3_1).f1).toList) (((rd_T27 l0 (ji11)).f0).toList)) = true) then (hawserlaw06_normal.l0 kj2 l0 ji11) else (some false)) else (none)) = some r := by first | (rw [hji11] at H; exact H) | (simp only [hji11] at H ⊢; exact H)
                      (try rw [hji11] at c7b0)
                      have hji11w : (IntKind.i64.wrap (x3_1 + 1)) = ji11 := (i64_w _).trans hji11
                      by_cases c12 : 0 ≤ (ji11)
                      · rw [if_pos c12] at H
                        have c12b0 : decide (0 ≤ (ji11)) = true := decide_eq_true c12
                        clear c12
                        by_cases c13 : ((Op.bytesLess (((rd_T27 l0 x3_1).f1).toList) (((rd_T27 l0 (ji11)).f0).toList)) = true)
                        · rw [if_pos c13] at H
                          have c13b0 : (Op.bytesLess (((rd_T27 l0 x3_1).f1).toList) (((rd_T27 l0 (ji11)).f0).toList)) = true := c13
                          clear c13
                          have H' := Aside0.mk H
                          clear H
                          have p150 : 0 ≤ (x3_1 : Int) := of_decide_eq_true (by first | (with_reducible assumption) | assumption)
                          have q150 : x3_1 < (l0.length : Int) := of_decide_eq_true (by first | (with_reducible assumption) | assumption)
                          obtain ⟨ad150, e150, hx150_0, hx150_1⟩ := at_T27 HR0.out x3_1 p150 q150
                          cases e150
                          replace p150 := eq_true p150
                          replace q150 := eq_true q150
                          have p151 : 0 ≤ (x3_1 : Int) := of_decide_eq_true (by first | (with_reducible assumption) | assumption)
                          have q151 : x3_1 < (l0.length : Int) := of_decide_eq_true (by first | (with_reducible assumption) | assumption)
                          obtain ⟨ad151, e151, hx151_0, hx151_1⟩ := at_T27 HR0.out x3_1 p151 q151
                          obtain rfl : ad150 = ad151 := (by injection e151)
                          replace p151 := eq_true p151
                          replace q151 := eq_true q151
                          have p152 : 0 ≤ ((ji11) : Int) := of_decide_eq_true (by first | (with_reducible assumption) | assumption)
                          have q152 : (ji11) < (l0.length : Int) := of_decide_eq_true (by first | (with_reducible assumption) | assumption)
                          obtain ⟨ad152, e152, hx152_0, hx152_1⟩ := at_T27 HR0.out (ji11) p152 q152
                          obtain rfl : ad150 = ad152 := (by injection e152)
                          replace p152 := eq_true p152
                          replace q152 := eq_true q152
                          go_wp2
                          repeat (go_quiet (fail); try go_wp2)
                          go_roundg kj2
                          case measure => have := HK1.out; have := HJ2.out; omega
                          case rel => exact ⟨(ji11), (by first | rfl | (simp; done) | (simp only [← hji11] <;> (first | rfl | simp)) | (simp [*]; done)), H', ⟨by have := HK1.out; have := HJ2.out; omega⟩, by repeat (first | exact Drawn0.refl _ | apply Drawn0.step)⟩
                        · rw [if_neg c13] at H
                          have c13b0 : (Op.bytesLess (((rd_T27 l0 x3_1).f1).toList) (((rd_T27 l0 (ji11)).f0).toList)) = false := by simpa using c13
                          clear c13
                          obtain rfl := Option.some.inj H
                          have p150 : 0 ≤ (x3_1 : Int) := of_decide_eq_true (by first | (with_reducible assumption) | assumption)
                          have q150 : x3_1 < (l0.length : Int) := of_decide_eq_true (by first | (with_reducible assumption) | assumption)
                          obtain ⟨ad150, e150, hx150_0, hx150_1⟩ := at_T27 HR0.out x3_1 p150 q150
                          cases e150
                          replace p150 := eq_true p150
                          replace q150 := eq_true q150
                          have p151 : 0 ≤ (x3_1 : Int) := of_decide_eq_true (by first | (with_reducible assumption) | assumption)
                          have q151 : x3_1 < (l0.length : Int) := of_decide_eq_true (by first | (with_reducible assumption) | assumption)
                          obtain ⟨ad151, e151, hx151_0, hx151_1⟩ := at_T27 HR0.out x3_1 p151 q151
                          obtain rfl : ad150 = ad151 := (by injection e151)
                          replace p151 := eq_true p151
                          replace q151 := eq_true q151
                          have p152 : 0 ≤ ((ji11) : Int) := of_decide_eq_true (by first | (with_reducible assumption) | assumption)
                          have q152 : (ji11) < (l0.length : Int) := of_decide_eq_true (by first | (with_reducible assumption) | assumption)
                          obtain ⟨ad152, e152, hx152_0, hx152_1⟩ := at_T27 HR0.out (ji11) p152 q152
                          obtain rfl : ad150 = ad152 := (by injection e152)
                          replace p152 := eq_true p152
                          replace q152 := eq_true q152
                          go_wp2
                          repeat (go_quiet (fail); try go_wp2)
                          go_ret
                          exact ⟨by first | rfl | (simp; done) | (simp only [← hji11] <;> (first | rfl | simp)) | (simp [*]; done), by repeat (first | exact Drawn0.refl _ | apply Drawn0.step)⟩
                      · rw [if_neg c12] at H
                        exact absurd H (by simp)
                  · rw [if_neg c9] at H
                    exact absurd H (by simp)
                · rw [if_neg c8] at H
                  exact absurd H (by simp)
              · rw [if_neg c7] at H
                have c7b0 : decide ((wrap64 (x3_1 + 1)) < (l0.length : Int)) = false := decide_eq_false c7
                clear c7
                have H' := Aside0.mk H
                clear H
                go_wp2
                repeat (go_quiet (fail); try go_wp2)
                go_roundg kj2
                case measure => have := HK1.out; have := HJ2.out; omega
                case rel => exact ⟨(wrap64 (x3_1 + 1)), (by first | rfl | (simp; done) | (simp [*]; done)), H', ⟨by have := HK1.out; have := HJ2.out; omega⟩, by repeat (first | exact Drawn0.refl _ | apply Drawn0.step)⟩
      · rw [if_neg c2] at H
        have c2b0 : decide (x3_1 < (l0.length : Int)) = false := decide_eq_false c2
        clear c2
        obtain rfl := Option.some.inj H
        go_wp2
        repeat (go_quiet (fail); try go_wp2)
        go_ret
        exact ⟨by first | rfl | (simp; done) | (simp [*]; done), by repeat (first | exact Drawn0.refl _ | apply Drawn0.step)⟩

-- NOT PRINTED: function 6 (hawserlaw06_SpanBack)

end Go.Proofs.YtmjmjjhfficilaaDoor.PSpanBack

/- What is proved: contracts of the functions that the law uses, each under the conditions that its theorem states. Written by a program of this session: texts of the kit's print, and texts by hand for the functions that the print does not take. -/
import Derived.Test.YtijlanhhelichaaDoorPSpanNormalsx0
import Derived.Test.YtijlanhhelichaaDoorPSpanNormalsx2
namespace Go.Proofs.YtijlanhhelichaaDoor.PSpanNormals
open Go.RowKit Go.Proofs.YtijlanhhelichaaDoorW.PrintWords Go.Proofs.YtijlanhhelichaaDoorW.PrintLast Go.Proofs.YtijlanhhelichaaDoorW.PrintMore
attribute [local go_sem] max2_int min2_int max_two min_two max_three min_three max_four min_four   -- for this text's walks alone
set_option linter.unusedVariables false
set_option linter.unusedSimpArgs false

/-! ### span_Normal: function 18 -/
def span_Normal.f (l0 : List (S28)) : Option ((List (S28))) := (span_merged.f l0).bind fun t102 => (some t102)
set_option maxHeartbeats 8000000 in
set_option maxRecDepth 100000 in
theorem span_Normal.calls (A0 : Option Addr) (c0 : Nat) (l0 : List (S28)) (r : List (S28)) (w : World) (hr0 : Kd.C k28 w A0 l0.length l0) (hc0 : l0.length ≤ c0) (h : span_Normal.f l0 = some r) :
    Calls Tryd.prog 18 #[.slice A0 l0.length c0] w fun e w' => ∃ v0_ : Value, e = .returned (v0_) ∧ Kd.R k28 28 w' w.heap.size (fun _ => True) v0_ r ∧ Below w.heap.size w w' := by
  have HR0 := Aside0.mk hr0
  have HC0 := Aside0.mk hc0
  clear hr0 hc0
  have HB := Aside0.mk (Below.refl w.heap.size w)
  have H : ((span_merged.f l0).bind fun t102 => (some t102)) = some r := h
  clear h
  replace H := Option.bind_eq_some_iff.mp H
  obtain ⟨t102, A20, H⟩ := H
  replace H : (some t102) = some r := H
  have A2 := Aside0.mk A20
  clear A20
  obtain rfl := Option.some.inj H
  go_enter Tryd.func18, Tryd.ntmps18
  go_wp2_with (first | ((with_reducible refine gate_callee (f := 38) rfl ?_); refine goesL_ (some 4) rfl rfl Tryd.func38 (by kernel_rfl) rfl #[.slice A0 l0.length c0] rfl (by (try simp only [List.map_toArray, List.map_cons, List.map_nil]); first | done | rfl | (simp only [List.length_drop, List.length_take]; rfl)) ?_; (with_reducible refine (span_merged.calls _ _ l0 t102 _ ?side1 ?side2 A2.out).mono ?_); (case side1 => repeat (first | exact HR0.out | (with_reducible refine Kd.C_alloc ?_ _) | (with_reducible refine Kd.C_drewN ?_ _) | (with_reducible refine Kd.C_drew ?_))); (case side2 => exact HC0.out); rintro e w3 ⟨v103, rfl, ho0, hb⟩; refine ⟨_, rfl, ?_⟩; have n0_ := Aside0.mk (Kd.R_lower ho0 (below_size (by repeat (first | (with_reducible first | exact HB.out | apply below_alloc | apply pw_below_drewN | apply below_drew1) | exact HB.out)))); have n1_ := Aside0.mk (below_step (by repeat (first | (with_reducible first | exact HB.out | apply below_alloc | apply pw_below_drewN | apply below_drew1) | exact HB.out)) hb); clear HB; have HO104 := n0_; have HB := n1_; clear n0_ n1_; (try clear hb); (try clear hb2); (try clear hk); (try clear hi); (try clear ho0)))
  go_ret
  exact ⟨_, by first | rfl | (simp [errW_none, errW_some] <;> rfl) | (simp [*, errW_none, errW_some] <;> rfl), by (with_reducible repeat (first | apply Kd.R_alloc | apply Kd.R_drewN | apply Kd.R_drew)); exact HO104.out, by repeat (first | (with_reducible first | exact HB.out | apply below_alloc | apply pw_below_drewN | apply below_drew1) | exact HB.out)⟩

/-! ### cmp_isNaN_string: function 131 -/

/-! ### cmp_Less_string: function 122 -/

/-! ### slices_insertionSortOrdered_string: function 116 -/

/-! ### slices_siftDownOrdered_string: function 128 -/

/-! ### slices_heapSortOrdered_string: function 117 -/

/-! ### slices_breakPatternsOrdered_string: function 118 -/

/-! ### slices_order2Ordered_string: function 133 -/

/-! ### slices_medianOrdered_string: function 130 -/

/-! ### slices_medianAdjacentOrdered_string: function 129 -/

/-! ### slices_choosePivotOrdered_string: function 119 -/

/-! ### slices_reverseRangeOrdered_string: function 120 -/

/-! ### slices_partialInsertionSortOrdered_string: function 121 -/

/-! ### slices_partitionEqualOrdered_string: function 123 -/

/-! ### slices_partitionOrdered_string: function 124 -/

/-! ### slices_pdqsortOrdered_string: function 104 -/

/-! ### slices_Sort_string_string: function 88 -/

/-! ### sort_Strings: function 68 -/
/-! #### sort.Strings off the shelf -/
def keyB (x : ByteArray) : List UInt8 := x.data.toList
def mkS (s : List UInt8) : ByteArray := ⟨s.toArray⟩
theorem mkS_key (x : ByteArray) : mkS (keyB x) = x := by cases x; simp [mkS, keyB]
/-- The texts, rising. -/
def sortB (l : List ByteArray) : List ByteArray := ((l.map keyB).mergeSort fun x y => decide (x ≤ y)).map mkS
theorem sortB_len (l : List ByteArray) : (sortB l).length = l.length := by simp [sortB]
open Go.Shelf Go.Lib Go.Sort in
theorem sortS_some (w : World) (g cap : Nat) (l : List ByteArray) (cur : Array Value) (hh : w.heap[g]? = some (.cells cur 9 (0, 0))) (hcur : ∀ (j : Nat) (p : ByteArray), l[j]? = some p → cur[j]? = some (Value.string p)) (hn : l.length ≤ 4294967296) :
    Calls Tryd.prog 68 #[.slice (some ⟨g, 0, none⟩) l.length cap] w fun e w' => e = .returned (.tuple #[]) ∧ (∃ cur', w'.heap[g]? = some (.cells cur' 9 (0, 0)) ∧ cur'.size = cur.size ∧ ∀ (j : Nat) (p : ByteArray), (sortB l)[j]? = some p → cur'[j]? = some (Value.string p)) ∧ w.heap.size ≤ w'.heap.size ∧ (∀ i, i < w.heap.size → i ≠ g → w'.heap[i]? = w.heap[i]?) ∧ (∀ base, base ≤ g → base ≤ w.heap.size → Go.RowKit.Below base w w') := by
  have hlt : g < w.heap.size := by rcases Nat.lt_or_ge g w.heap.size with h | h; exact h; rw [Array.getElem?_eq_none h] at hh; cases hh
  have hl : (l.map keyB).length = l.length := List.length_map ..
  have hH : Holds encStr w g 0 (l.map keyB).toArray := by
    intro j hj
    have hj' : j < l.length := by simpa using hj
    rw [Nat.zero_add]
    refine ⟨?_, frozen_of_row w g j _ _ hh⟩
    rw [cell_of_row w g j _ _ _ hh, hcur j l[j] (List.getElem?_eq_getElem hj')]
    have e3 : (l.map keyB).toArray[j]! = keyB l[j] := by simp [hj']
    rw [e3]
    exact congrArg some (congrArg Value.string (mkS_key l[j]).symm)
  have hcon := Any.sort_Strings Tryd.sortS g 0 cap (l.map keyB) w hH hlt (by rw [hl]; omega)
  change Calls Tryd.prog 68 _ _ _ at hcon
  rw [hl] at hcon
  refine hcon.mono ?_
  rintro e w' ⟨rfl, n, os, rfl⟩
  have hsz : ((l.map keyB).mergeSort fun x y => decide (x ≤ y)).length = l.length := by simp
  have hb : ∀ i, i < w.heap.size → (grow (putRow encStr (Sort.ahead w n) g 0 ((l.map keyB).mergeSort fun x y => decide (x ≤ y)).toArray) os).heap[i]? = if g = i then (w.heap[i]?).map (onCells (putCells encStr 0 ((l.map keyB).mergeSort fun x y => decide (x ≤ y)).toArray)) else w.heap[i]? := by
    intro i hi
    unfold grow putRow mapBlock
    simp only
    have hz : (Sort.ahead w n).heap = w.heap := rfl
    rw [hz, Array.getElem?_append_left (by simp; omega), Array.getElem?_modify]
  have hzz : w.heap.size ≤ (grow (putRow encStr (Sort.ahead w n) g 0 ((l.map keyB).mergeSort fun x y => decide (x ≤ y)).toArray) os).heap.size := by
    unfold grow putRow mapBlock
    have hz : (Sort.ahead w n).heap = w.heap := rfl
    simp [hz]
  refine ⟨rfl, ⟨putCells encStr 0 ((l.map keyB).mergeSort fun x y => decide (x ≤ y)).toArray cur, ?_, by simp [putCells], fun j p hj => ?_⟩, hzz, fun i hi hne => ?_, fun base h1 h2 => ⟨rfl, rfl, rfl, hzz, fun k hk => ?_⟩⟩
  · rw [hb g hlt, if_pos rfl, hh]; rfl
  · have hjl : j < l.length := by
      rcases Nat.lt_or_ge j (sortB l).length with h | h
      · rw [sortB_len] at h; exact h
      · rw [List.getElem?_eq_none h] at hj; cases hj
    have hjc : j < cur.size := by
      have h := hcur j l[j] (List.getElem?_eq_getElem hjl)
      rcases Nat.lt_or_ge j cur.size with h2 | h2
      · exact h2
      · rw [Array.getElem?_eq_none h2] at h; cases h
    unfold putCells
    rw [Array.getElem?_mapIdx, Array.getElem?_eq_getElem hjc]
    have hj2 : j < ((l.map keyB).mergeSort fun x y => decide (x ≤ y)).length := by rw [hsz]; exact hjl
    simp only [Option.map_some]
    rw [if_pos ⟨Nat.zero_le _, by simpa using hjl⟩]
    unfold sortB at hj
    rw [List.getElem?_map, List.getElem?_eq_getElem hj2] at hj
    simp only [Option.map_some] at hj
    injection hj with hj
    subst hj
    simp only [Nat.sub_zero]
    show some (Value.string (mkS (((l.map keyB).mergeSort fun x y => decide (x ≤ y)).toArray[j]!))) = _
    rw [show ((l.map keyB).mergeSort fun x y => decide (x ≤ y)).toArray[j]! = ((l.map keyB).mergeSort fun x y => decide (x ≤ y))[j] from by rw [getElem!_pos _ j (by simpa using hj2)]; rfl]
  · rw [hb i hi, if_neg (fun h => hne h.symm)]
  · rw [hb k (by omega), if_neg (by omega)]
def sort_Strings.f (l0 : List ByteArray) : Option (List ByteArray) := if l0.length ≤ 4294967296 then some (sortB l0) else none
open Go.Shelf Go.Lib Go.Sort in
theorem sort_Strings.calls (P0_ : Nat → Prop) (u9000_ : Value) (l0 : List ByteArray) (r : List ByteArray) (w0 w : World) (hB : Go.RowKit.Below w0.heap.size w0 w) (ho0 : Kd.R Kd.string 9 w w0.heap.size P0_ u9000_ l0) (h : sort_Strings.f l0 = some r) :
    Calls Tryd.prog 68 #[u9000_] w fun e w' => e = .returned (.tuple #[]) ∧ Kd.R Kd.string 9 w' w0.heap.size (fun k_ => (P0_ k_ ∨ w.heap.size ≤ k_)) u9000_ r ∧ Go.RowKit.Below w0.heap.size w0 w' ∧ Kept w w' (fun k_ => P0_ k_) := by
  unfold sort_Strings.f at h
  split at h
  · rename_i hn
    injection h with h
    subst h
    obtain ⟨hok, inner, ho, hreps⟩ := ho0
    have hs1 : Kd.string.sz = 1 := rfl
    rcases ho.2 with ⟨hv, h0⟩ | ⟨g, cap, cur, hv, hg, hh, h1, h2, h3, ht⟩
    · have hl : l0 = [] := List.eq_nil_of_length_eq_zero h0
      subst hl
      subst hv
      have hcon := Any.sort_Strings_none Tryd.sortS none 0 w
      change Calls Tryd.prog 68 _ _ _ at hcon
      refine hcon.mono ?_
      rintro e w' ⟨rfl, rfl⟩
      exact ⟨rfl, by rw [show sortB [] = [] from List.eq_nil_of_length_eq_zero (sortB_len [])]; exact Kd.R_nil _ _ _ _ _, hB, Kept.refl _ _⟩
    · subst hv
      rw [hs1] at ht h3
      have hil : inner.length = l0.length * 1 := by rw [hreps.1, hs1]
      have hcur : ∀ (j : Nat) (p : ByteArray), l0[j]? = some p → cur[j]? = some (Value.string p) := by
        intro j p hj
        have hjl : j < l0.length := by
          rcases Nat.lt_or_ge j l0.length with h | h
          · exact h
          · rw [List.getElem?_eq_none h] at hj; cases hj
        have hK := hreps.2 j p hj
        rw [hs1] at hK
        have hK2 : (inner.drop (j * 1)).take 1 = [.string p] := hK
        have e1 : inner[j]? = some (.string p) := by
          have e2 : ((inner.drop (j * 1)).take 1)[0]? = some (.string p) := by rw [hK2]; rfl
          rw [List.getElem?_take, if_pos (by omega), List.getElem?_drop] at e2
          simpa using e2
        rw [← ht, List.getElem?_take, if_pos (by omega)] at e1
        rw [← e1]; simp
      refine (sortS_some w g cap l0 cur hh hcur hn).mono ?_
      rintro e w' ⟨rfl, ⟨cur', hh', hsz, hc'⟩, hz, hoth, hbel⟩
      refine ⟨rfl, ⟨fun k hk => .inl (hok k hk), cur'.toList.take (l0.length * 1), ⟨?_, .inr ⟨g, cap, cur', by rw [sortB_len], hg, hh', by rw [sortB_len]; exact h1, h2, by rw [hsz]; exact h3, by rw [sortB_len, hs1]⟩⟩, ?_, fun j p hj => ?_⟩, hB.trans (hbel _ hg hB.size), hz, fun i hi hne => hoth i hi (fun e => hne (by subst e; exact hok i (by simp [Value.ownBlock])))⟩
      · rw [sortB_len, hs1, List.length_take, show cur'.toList.length = cap * 1 from by rw [Array.length_toList, hsz]; exact h3]; omega
      · rw [sortB_len, hs1, List.length_take, show cur'.toList.length = cap * 1 from by rw [Array.length_toList, hsz]; exact h3]; omega
      · have hjl : j < l0.length := by
          rcases Nat.lt_or_ge j (sortB l0).length with h | h
          · rw [sortB_len] at h; exact h
          · rw [List.getElem?_eq_none h] at hj; cases hj
        have h5 := hc' j p hj
        show (((cur'.toList.take (l0.length * 1)).drop (j * Kd.string.sz)).take Kd.string.sz) = [.string p]
        rw [hs1]
        apply List.ext_getElem?
        intro q
        rw [List.getElem?_take]
        split
        · rename_i hq
          obtain rfl : q = 0 := by omega
          rw [List.getElem?_drop, List.getElem?_take, if_pos (by omega), Array.getElem?_toList]
          simpa using h5
        · rw [List.getElem?_eq_none (by simp; omega)]
  · cases h

end Go.Proofs.YtijlanhhelichaaDoor.PSpanNormals

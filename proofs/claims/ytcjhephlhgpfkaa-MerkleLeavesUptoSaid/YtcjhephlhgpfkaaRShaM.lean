/- What is proved: append of one byte behind a row that a conversion made (it bears a mark behind its cells); the reference's Copy; the conditions stand in each theorem. -/
import Derived.Test.YtcjhephlhgpfkaaRShaD
import Derived.ArgAppend
namespace Go.Proofs.Ytcjhephlhgpfkaa.Sha
open Go.RowKit Go.Proofs.YtcjhephlhgpfkaaW.PrintWords Go.Proofs.YtcjhephlhgpfkaaW.PrintLast
set_option linter.unusedVariables false
set_option linter.unusedSimpArgs false
def MRow (w : World) (base : Nat) (v : Value) (xs : List Int) : Prop := ∃ g cap, v = .slice (some ⟨g, 0, none⟩) xs.length cap ∧ base ≤ g ∧ xs.length ≤ cap ∧ cap ≤ maxLen ∧
  (∀ j, j < xs.length → w.cell? ⟨g, j, none⟩ = some (.int .u8 (xs.getD j 0))) ∧ ∀ j, j < cap → (w.cell? ⟨g, j, none⟩).isSome = true ∧ w.frozen? ⟨g, j, none⟩ = false
theorem MRow.reads {w : World} {base : Nat} {v : Value} {xs : List Int} (h : MRow w base v xs) : ∃ g cap, v = .slice (some ⟨g, 0, none⟩) xs.length cap ∧ base ≤ g ∧ xs.length ≤ cap ∧ ReadsInt w .u8 (some ⟨g, 0, none⟩) xs.length xs := by
  obtain ⟨g, cap, rfl, hb, hc, hm, h1, h2⟩ := h
  refine ⟨g, cap, rfl, hb, hc, rfl, by simp only [maxLen] at hm; omega, fun _ => ⟨_, rfl, fun j hj => ?_⟩⟩
  rw [Addr.add_lit, Nat.zero_add]
  exact h1 j hj
theorem MRow.below {w w1 : World} {base : Nat} {v : Value} {xs : List Int} (h : MRow w base v xs) (hb : Below w.heap.size w w1) : MRow w1 base v xs := by
  obtain ⟨g, cap, rfl, hg, hc, hm, h1, h2⟩ := h
  have key : ∀ j, j < cap → w1.heap[g]? = w.heap[g]? := by
    intro j hj
    have hs := (h2 j hj).1
    obtain ⟨u, hu⟩ := Option.isSome_iff_exists.1 hs
    exact hb.block g (World.block_lt_of_cell? w _ hu)
  refine ⟨g, cap, rfl, hg, hc, hm, fun j hj => ?_, fun j hj => ?_⟩
  · have := h1 j hj
    rw [← this]
    unfold World.cell?
    rw [key j (by omega)]
  · have := h2 j hj
    have e := key j hj
    constructor
    · rw [← this.1]; unfold World.cell?; rw [e]
    · rw [← this.2]; unfold World.frozen?; rw [e]
theorem MRow.own {w : World} {base : Nat} {v : Value} {xs : List Int} (h : w.ownsRow base 5 1 v xs.length (nums .u8 xs)) (h0 : 0 < xs.length) : MRow w base v xs := by
  rcases h.2 with ⟨rfl, he⟩ | ⟨g, cap, cur, rfl, hb, hh, hn, hm, hsz, htk⟩
  · omega
  · refine ⟨g, cap, rfl, hb, hn, hm, fun j hj => ?_, fun j hj => ⟨?_, frozen_of_row w g j _ _ hh⟩⟩
    · rw [cell_of_row w g j _ _ _ hh]
      have : (cur.toList.take (xs.length * 1))[j]? = (nums .u8 xs)[j]? := by rw [htk]
      rw [List.getElem?_take_of_lt (by omega), Array.getElem?_toList] at this
      rw [this]
      simp [nums, List.getD, List.getElem?_eq_getElem hj]
    · rw [cell_of_row w g j _ _ _ hh]
      have : j < cur.size := by omega
      simp [this]
theorem own_mono {w : World} {base base' : Nat} {e : TypeId} {size n : Nat} {v : Value} {xs : List Value} (h : w.ownsRow base' e size v n xs) (hb : base ≤ base') : w.ownsRow base e size v n xs := by
  refine ⟨h.1, ?_⟩
  rcases h.2 with h | ⟨g, cap, cur, h1, h2, h3⟩
  · exact .inl h
  · exact .inr ⟨g, cap, cur, h1, Nat.le_trans hb h2, h3⟩
theorem m_append {P : Program} {ops : Array Oper} {rest : List Oper} {o : Oper} {a : Act} {Q : Exit → Act → World → Prop} {w0 W : World} (base : Nat) (hgd : o.guard = none) (s x : Operand) (t : TypeId)
    (ho : o.op = .call { callee := .builtin .append, args := #[s, x], argTypes := #[t, t] })
    (ht : P.underlying t = some (.slice 5)) (hinfo : (P.info? 5).map (fun i => (i.zero, i.size, i.bytes)) = some (some (.int .u8 0), 1, 1))
    (v : Value) (xs : List Int) (y : Int) (hs : a.eval s = v) (hx : a.eval x = .slice (some ⟨W.heap.size, 0, none⟩) 1 1)
    (HM : MRow W base v xs) (HB : Below base w0 W) (hbase : base ≤ W.heap.size) (hl : xs.length + 1 ≤ 140737488355328)
    (h : ∀ v1 w1, MRow w1 base v1 (xs ++ [y]) → Below base w0 w1 → wpList P ops Q rest (a.put o.dst v1) w1) :
    wpList P ops Q (o :: rest) a (W.alloc (.cells #[.int .u8 y] 5)) := by
  obtain ⟨i0, hi, hz0, hz1, hz2⟩ := info_parts hinfo
  have HM' := HM.below ((Below.refl _ _).alloc (Nat.le_refl _) (.cells #[.int .u8 y] 5))
  obtain ⟨g, cap, rfl, hb, hc, hm, h1, h2⟩ := HM'
  have HBa : Below base w0 (W.alloc (.cells #[.int .u8 y] 5)) := HB.alloc hbase _
  refine wpList_append_arg _ hgd s x t ho 5 i0 (.int .u8 0) 1 1 ht hi hz0 hz1 hz2 rfl (by decide) g 0 xs.length cap (nums .u8 xs) hs (by simp [nums]) ?olds ⟨W.heap.size, 0, none⟩ 1 1 [.int .u8 y] hx rfl
    (World.news_of_block (cs := #[.int .u8 y]) (t := 5) (fr := (0, 0)) (heap_alloc_new W _)) (by intro u hu; simp at hu; subst hu; rfl) ?spare (by simp only [maxLen]; omega) (by omega) ?room ?grow
  case olds =>
    intro j u hj
    have hjl : j < xs.length := by have := (List.getElem?_eq_some_iff.1 hj).1; simpa [nums] using this
    rw [Nat.zero_add, h1 j hjl]
    simpa [nums, List.getD, List.getElem?_eq_getElem hjl] using hj
  case spare =>
    intro hr j hj
    have := h2 (0 + xs.length * 1 + j) (by simp at hj; omega)
    exact this
  case room =>
    intro hr
    refine h _ _ ⟨g, cap, by simp, hb, by simp; omega, hm, fun j hj => ?_, fun j hj => ?_⟩ ?_
    · simp only [Nat.zero_add, Nat.mul_one, World.setCells]
      by_cases e : j = xs.length
      · subst e
        have hsome := (h2 xs.length (by omega)).1
        obtain ⟨u, hu⟩ := Option.isSome_iff_exists.1 hsome
        rw [World.cell?_setCell_same _ _ _ hu]
        simp [List.getD]
      · have hj' : j < xs.length := by simp at hj; omega
        rw [World.cell?_setCell_other _ _ _ _ (by intro hh; injection hh with _ hh; omega), h1 j hj']
        simp [List.getD, List.getElem?_append_left hj']
    · simp only [Nat.zero_add, Nat.mul_one, World.setCells]
      have q := h2 j hj
      constructor
      · obtain ⟨u, hu⟩ := Option.isSome_iff_exists.1 q.1
        obtain ⟨u', hu'⟩ := cell?_setCell_some (p := ⟨g, xs.length, none⟩) (x := .int .u8 y) hu
        rw [hu']; rfl
      · rw [World.frozen?_setCell]; exact q.2
    · exact HBa.setCell hb _
  case grow =>
    intro hr v' w' hown hg
    refine h v' w' (MRow.own (xs := xs ++ [y]) ?_ (by simp)) ?_
    · have : (nums .u8 xs ++ [Value.int .u8 y]) = nums .u8 (xs ++ [y]) := by simp [nums]
      rw [this] at hown
      simpa using own_mono hown (by simp; omega)
    · exact HBa.grown hg (by simp; omega) (fun _ h => by cases h)
set_option maxRecDepth 100000 in
set_option maxHeartbeats 4000000 in
theorem rcopy_any (w : World) (A : Option Addr) (c : Nat) (xs : List Int) (hr : ReadsInt w .u8 A xs.length xs) (hx : ∀ x ∈ xs, 0 ≤ x ∧ x ≤ 255) (hl : xs.length ≤ 70368744177664) :
    Calls Try.prog 31 #[.slice A xs.length c] w fun e w' => ∃ v, e = .returned v ∧ MRow w' w.heap.size v xs ∧ Below w.heap.size w w' := by
  have k1 := string_of_reads (P := Try.prog) (src := 37) (dst := 9) (e := 5) (c := c) Try.underlying37 Try.underlying5 Try.underlying9 hr
  have k2 := fun W => print_bytes (P := Try.prog) 9 37 5 Try.underlying9 Try.underlying37 Try.underlying5 (strOfNums xs) W
  go_enter Try.func31, Try.ntmps31
  go_wp2
  go_ret
  refine ⟨_, rfl, ?_, bytes_below (Below.refl _ _) (Nat.le_refl _) 5 _⟩
  have hz := strOfNums_size xs
  have hg := grownCap_ge w (strOfNums xs).size 0 5
  have hcs : (Lib.bytesCells w 5 (strOfNums xs)).size = grownCap w (strOfNums xs).size 0 5 := by
    unfold Lib.bytesCells
    rw [Array.size_append, Array.size_map, Array.size_replicate]
    have : (strOfNums xs).data.size = (strOfNums xs).size := rfl
    omega
  refine ⟨w.heap.size, grownCap w (strOfNums xs).size 0 5, by first | rfl | (rw [hz]; rfl), Nat.le_refl _, by omega, grownCap_le_maxLen _ _ _ _ (by simp only [maxLen]; omega), fun j hj => ?_, fun j hj => ⟨?_, ?_⟩⟩
  · rw [Lib.bytesWorld_cell w 5 _ j (by omega), strOfNums_data]
    have hb := hx _ (List.getElem_mem hj)
    simp only [List.getD, List.getElem?_map, List.getElem?_eq_getElem hj, Option.map_some, Option.getD_some]
    have : (UInt8.ofNat (xs[j]).toNat).toNat = (xs[j]).toNat := by
      rw [UInt8.toNat_ofNat']
      omega
    rw [this, Int.toNat_of_nonneg hb.1]
  · simp [World.cell?, Lib.bytesWorld_at_new, hcs, hj]
  · unfold World.frozen?
    simp only [Lib.bytesWorld_at_new]
    rw [hcs]
    have : ¬ grownCap w (strOfNums xs).size 0 5 ≤ j := by omega
    simp [this]
end Go.Proofs.Ytcjhephlhgpfkaa.Sha

/- What is proved: contracts of the functions that the law uses, each under the conditions that its theorem states. Written by a program of this session: texts of the kit's print, and texts by hand for the functions that the print does not take. -/
import Derived.Test.YtmjmjjhfficilaaDoorPSpanTouchesx0
import Derived.Test.YtmjmjjhfficilaaDoorPSpanTouchesx1
namespace Go.Proofs.YtmjmjjhfficilaaDoor.PSpanTouches
open Go.RowKit Go.Proofs.YtmjmjjhfficilaaDoorW.PrintWords Go.Proofs.YtmjmjjhfficilaaDoorW.PrintLast Go.Proofs.YtmjmjjhfficilaaDoorW.PrintMore
attribute [local go_sem] max2_int min2_int max_two min_two max_three min_three max_four min_four   -- for this text's walks alone
set_option linter.unusedVariables false
set_option linter.unusedSimpArgs false

/-! ### span_merged: function 38 -/
open Go.Shelf Go.Lib Go.Sort in
def encR (x : S27) : List Value := [.string x.f0, .string x.f1]
instance instInhR : Inhabited S27 := ⟨⟨⟨#[]⟩, ⟨#[]⟩⟩⟩
def rB : S27 := ⟨⟨#[98]⟩, ⟨#[99]⟩⟩
def rA : S27 := ⟨⟨#[97]⟩, ⟨#[98]⟩⟩
def rC : S27 := ⟨⟨#[97]⟩, ⟨#[99]⟩⟩
theorem abs_m {P : Program} {c : Code} {Q : Exit → Act → World → Prop} {a : Act} {w : World} (h : ∀ w', w' = w → Code.wp P c Q a w') : Code.wp P c Q a w := h w rfl
open Go.Shelf Go.Lib Go.Sort in
set_option maxHeartbeats 1000000 in
theorem clo (x y : S27) (W : World) : Calls Tryd.prog 54 #[.agg #[.string x.f0, .string x.f1], .agg #[.string y.f0, .string y.f1]] W fun e w' => e = .returned (.int .i64 (Lib.compareBytes x.f0.data.toList y.f0.data.toList)) ∧ ∃ q os', w' = grow (W.drewN q) os' := by
  have hcon := fun W' => Any.strings_Compare Tryd.cmpS x.f0 y.f0 W'
  change ∀ W', Calls Tryd.prog 55 _ _ _ at hcon
  generalize Lib.compareBytes x.f0.data.toList y.f0.data.toList = r at hcon ⊢
  go_enter Tryd.func54, Tryd.ntmps54
  go_wp2_with (go_at_call 55; refine (hcon _).mono ?_; rintro e w' ⟨rfl, rfl⟩)
  go_ret
  exact ⟨rfl, 0, _, by rw [alloc_eq_grow, alloc_eq_grow, grow_grow]; rfl⟩
open Go.Shelf Go.Lib Go.Sort in
theorem hlen (n : Nat) (W : World) (h : n ≤ 12) : Calls Tryd.prog 65 #[.int .u64 n] W fun e w' => (∃ l : Int, e = .returned (.int .i64 l)) ∧ w' = W :=
  (Any.bits_Len Tryd.blen n W (by omega) (by omega)).mono fun _ _ ⟨he, hw⟩ => ⟨⟨_, he⟩, hw⟩
open Go.Shelf Go.Lib Go.Sort in
theorem sorted2 : Sort.insertionSort (ltOf fun x y : S27 => Lib.compareBytes x.f0.data.toList y.f0.data.toList) #[rB, rA] 0 2 = #[rA, rB] := by kernel_rfl
open Go.Shelf Go.Lib Go.Sort in
theorem sort2 (w : World) (blk cap : Nat) (hH : HoldsK encR 2 w blk 0 #[rB, rA]) (hblk : blk < w.heap.size) :
    Calls Tryd.prog 53 #[.slice (some ⟨blk, 0, none⟩) 2 cap, .func (.func 54) #[] #[]] w fun e w' => e = .returned (.tuple #[]) ∧ ∃ n os, w' = sortWorldK encR 2 w blk 0 n #[rA, rB] os := by
  have eg : ∀ args w, (callFunc 54 args).run Tryd.prog w = .ok (.enter 54 args) w := enters_of Tryd.func54 (by kernel_rfl) rfl
  have hcon := AnyQ.slices_SortFunc_small Tryd.sortR 2 Tryd.isAgg27 Tryd.sizeOf27 encR (fun _ => rfl) (fun x v hv => by simp [encR] at hv; rcases hv with rfl | rfl <;> rfl) (fun x y => Lib.compareBytes x.f0.data.toList y.f0.data.toList) 54 #[] blk 0 cap #[rB, rA] w eg (fun _ _ _ _ x y => clo x y _) hH hblk (by decide) hlen
  change Calls Tryd.prog 53 _ _ _ at hcon
  refine hcon.mono ?_
  rintro e w' ⟨rfl, n, os, rfl⟩
  exact ⟨rfl, n, os, by rw [show (#[rB, rA] : Array S27).size = 2 from rfl, sorted2]⟩
open Go.Shelf Go.Lib Go.Sort in
theorem sort_below {w : World} {base blk n : Nat} {d : Array S27} {os : Array Obj} (hb : base ≤ blk) (hs : base ≤ w.heap.size) : Go.RowKit.Below base w (sortWorldK encR 2 w blk 0 n d os) := by
  refine ⟨rfl, rfl, rfl, size_sortWorldK_c encR 2 w blk 0 n d os, fun k hk => ?_⟩
  unfold sortWorldK grow putRowK putRow mapBlock
  simp only
  have hz : (Sort.ahead w n).heap = w.heap := rfl
  rw [hz, Array.getElem?_append_left (by simp; omega), Array.getElem?_modify, if_neg (by omega)]
theorem emp (x : S27) (h : span_Empty.f x.f0 x.f1 = some false) (W : World) : Calls Tryd.prog 52 #[.agg #[.string x.f0, .string x.f1]] W fun e w' => e = .returned (.bool false) ∧ Below W.heap.size W w' := span_Empty.calls x.f0 x.f1 false W h
theorem empB (W : World) : Calls Tryd.prog 52 #[.agg #[.string ⟨#[98]⟩, .string ⟨#[99]⟩]] W fun e w' => e = .returned (.bool false) ∧ Below W.heap.size W w' := emp rB (by decide +kernel) W
theorem empA (W : World) : Calls Tryd.prog 52 #[.agg #[.string ⟨#[97]⟩, .string ⟨#[98]⟩]] W fun e w' => e = .returned (.bool false) ∧ Below W.heap.size W w' := emp rA (by decide +kernel) W
/-- The row of a block of four cells. -/
def Four (w : World) (g : Nat) (a b c d : ByteArray) : Prop := w.cell? ⟨g, 0, none⟩ = some (.string a) ∧ w.cell? ⟨g, 1, none⟩ = some (.string b) ∧ w.cell? ⟨g, 2, none⟩ = some (.string c) ∧ w.cell? ⟨g, 3, none⟩ = some (.string d)
theorem Four.below {w w' : World} {g : Nat} {a b c d : ByteArray} (h : Four w g a b c d) (hb : Below w.heap.size w w') : Four w' g a b c d := by
  have e : w'.heap[g]? = w.heap[g]? := hb.block g (World.block_lt_of_cell? w _ h.1)
  have e2 : ∀ j, w'.cell? ⟨g, j, none⟩ = w.cell? ⟨g, j, none⟩ := fun j => hb.cell (show g < w.heap.size from World.block_lt_of_cell? w _ h.1)
  exact ⟨(e2 0).trans h.1, (e2 1).trans h.2.1, (e2 2).trans h.2.2.1, (e2 3).trans h.2.2.2⟩
set_option maxRecDepth 100000 in
theorem index2 (w : World) (g cap : Nat) (h4 : Four w g ⟨#[98]⟩ ⟨#[99]⟩ ⟨#[97]⟩ ⟨#[98]⟩) :
    Calls Tryd.prog 70 #[.slice (some ⟨g, 0, none⟩) 2 cap, .func (.func 52) #[] #[]] w fun e w' => e = .returned (.int .i64 (-1)) ∧ Below w.heap.size w w' := by
  have H4 := Lib.hid h4
  clear h4
  go_enter Tryd.func70, Tryd.ntmps70
  go_upto_region 2 with (fail)
  go_loopw [8] (fun v wr => (v = .int .i64 0 ∨ v = .int .i64 1 ∨ v = .int .i64 2) ∧ Below w.heap.size w wr) (fun v _ => 2 - (intOf v).toNat)
  case atStart => exact ⟨.inl rfl, Below.refl _ _⟩
  case round =>
    obtain ⟨hv, hb⟩ := hrel
    have h4 := H4.out.below hb
    have hz := hb.size
    have HB := Lib.hid hb
    clear hb
    obtain ⟨c0, c1, c2, c3⟩ := h4
    rcases hv with rfl | rfl | rfl
    · go_wp2_with (first
        | (go_at_call 52; refine (empB _).mono ?_; rintro e w2 ⟨rfl, hb2⟩))
      exact ⟨⟨.inr (.inl rfl), HB.out.trans (hb2.mono hz)⟩, by simp [intOf]⟩
    · go_wp2_with (first
        | (go_at_call 52; refine (empA _).mono ?_; rintro e w2 ⟨rfl, hb2⟩))
      exact ⟨⟨.inr (.inr rfl), HB.out.trans (hb2.mono hz)⟩, by simp [intOf]⟩
    · go_wp2
      go_ret
      exact ⟨rfl, HB.out⟩
set_option maxRecDepth 100000 in
theorem delete2 (w : World) (g cap : Nat) (h4 : Four w g ⟨#[98]⟩ ⟨#[99]⟩ ⟨#[97]⟩ ⟨#[98]⟩) :
    Calls Tryd.prog 51 #[.slice (some ⟨g, 0, none⟩) 2 cap, .func (.func 52) #[] #[]] w fun e w' => e = .returned (.slice (some ⟨g, 0, none⟩) 2 cap) ∧ Below w.heap.size w w' := by
  have hi := index2 w g cap h4
  clear h4
  go_enter Tryd.func51, Tryd.ntmps51
  go_wp2_with (first
    | (go_at_call 70; refine hi.mono ?_; rintro e w2 ⟨rfl, hb2⟩))
  go_ret
  exact ⟨rfl, hb2⟩
theorem infoR : (Tryd.prog.info? 27).map (fun i => (i.zero, i.size, i.bytes)) = some (some (.agg #[.string ⟨#[]⟩, .string ⟨#[]⟩]), 2, 32) := by kernel_rfl
theorem R_empty (w : World) (base g : Nat) (hb : base ≤ g) (hg : w.heap[g]? = some (.cells #[] 27 (0, 0))) : Kd.R k27 27 w base (fun _ => True) (.slice (some ⟨g, 0, none⟩) 0 0) [] :=
  ⟨fun _ _ => trivial, [], ⟨rfl, .inr ⟨g, 0, #[], rfl, hb, hg, Nat.le_refl _, by decide, rfl, rfl⟩⟩, ⟨rfl, fun j p hj => by simp at hj⟩⟩
set_option maxRecDepth 100000 in
theorem clone2 (w : World) (ad : Addr) (c : Nat) (hr : Kd.C k27 w (some ad) 2 [rB, rA]) (hc : 2 ≤ c) :
    Calls Tryd.prog 50 #[.slice (some ad) 2 c] w fun e w' => ∃ g cap, e = .returned (.slice (some ⟨g, 0, none⟩) 2 cap) ∧ w.heap.size ≤ g ∧ Four w' g ⟨#[98]⟩ ⟨#[99]⟩ ⟨#[97]⟩ ⟨#[98]⟩ ∧ (∀ j, w'.frozen? ⟨g, j, none⟩ = false) ∧ Below w.heap.size w w' := by
  have HR := Lib.hid hr
  clear hr
  have heq : ∀ W : World, (binOp .eql 35 (.slice (some ad) 2 c) (.slice none 0 0)).run Tryd.prog W = .ok (.bool false) W := by
    intro W
    have h : (Op.equalIn (9999 + 1) 35 (.slice (some ad) 2 c) (.slice none 0 0)).run Tryd.prog W = .ok false W := by
      rw [Op.equalIn]
      simp only [Sem.run_bind, run_underlying Tryd.underlying35, Result.andThen_ok]
      rfl
    have h2 : (Op.equal 35 (.slice (some ad) 2 c) (.slice none 0 0)).run Tryd.prog W = .ok false W := h
    simp only [binOp, Sem.run_bind, h2, Result.andThen_ok, Sem.run_pure]
  go_enter Tryd.func50, Tryd.ntmps50
  go_wp2_with (first
    | (at_builtin; refine Kd.R_append_rows k27 (Rr := k27.K w) (w0 := w) w.heap.size rfl (.tmp 5) (.tmp 6) 35 27 (.agg #[.string ⟨#[]⟩, .string ⟨#[]⟩]) 32 rfl Tryd.underlying35 infoR rfl (by decide) (by decide) (.slice (some ⟨w.heap.size, 0, none⟩) 0 0) [] [rB, rA] (some ad) 2 c (fun _ => True) (fun _ => False) rfl rfl (R_empty _ _ w.heap.size (Nat.le_refl _) (heap_alloc_new w _)) (Kd.C_below HR.out ((Below.refl _ _).alloc (Nat.le_refl _) _)) (fun x cs h => by rw [k27_open h]; exact k27_mkM _ _ _ x) (fun _ h => h.elim) (fun _ _ => trivial) ((Below.refl _ _).alloc (Nat.le_refl _) _) (by rw [World.size_alloc]; omega) (by decide) ?_; intro v1 w1 hR1 hb1 hg1 hat1))

  go_ret
  obtain ⟨-, inner, ho, hreps⟩ := hR1
  have hi : inner = [.string ⟨#[98]⟩, .string ⟨#[99]⟩, .string ⟨#[97]⟩, .string ⟨#[98]⟩] := by
    have h0 := k27_openM (hreps.2 0 rB rfl)
    have h1 := k27_openM (hreps.2 1 rA rfl)
    have hl := hreps.1
    simp only [show k27.sz = 2 from rfl] at h0 h1 hl
    match inner, hl with
    | [a, b, c, d], _ =>
      simp at h0 h1
      obtain ⟨rfl, rfl⟩ := h0
      obtain ⟨rfl, rfl⟩ := h1
      rfl
  subst hi
  rcases ho.2 with ⟨-, h⟩ | ⟨g, cap, cur, rfl, hg, hh, -, -, -, ht⟩
  · simp at h
  · refine ⟨g, cap, rfl, hg, ?_, fun j => frozen_of_row w1 g j _ _ hh, hb1⟩
    have hc4 : ∀ j v, ([.string ⟨#[98]⟩, .string ⟨#[99]⟩, .string ⟨#[97]⟩, .string ⟨#[98]⟩] : List Value)[j]? = some v → w1.cell? ⟨g, j, none⟩ = some v := by
      intro j v hj
      rw [cell_of_row w1 g j _ _ _ hh]
      rw [← ht] at hj
      have h1 : cur.toList[j]? = some v := by
        rw [List.getElem?_take] at hj
        split at hj
        · exact hj
        · cases hj
      rw [← h1]; simp
    exact ⟨hc4 0 _ rfl, hc4 1 _ rfl, hc4 2 _ rfl, hc4 3 _ rfl⟩
open Go.Shelf Go.Lib Go.Sort in
theorem flat1 : flatK encR 2 #[rB, rA] = #[.string ⟨#[98]⟩, .string ⟨#[99]⟩, .string ⟨#[97]⟩, .string ⟨#[98]⟩] := by kernel_rfl
open Go.Shelf Go.Lib Go.Sort in
theorem flat2 : flatK encR 2 #[rA, rB] = #[.string ⟨#[97]⟩, .string ⟨#[98]⟩, .string ⟨#[98]⟩, .string ⟨#[99]⟩] := by kernel_rfl
open Go.Shelf Go.Lib Go.Sort in
theorem holds4 (w : World) (g : Nat) (h : Four w g ⟨#[98]⟩ ⟨#[99]⟩ ⟨#[97]⟩ ⟨#[98]⟩) (hf : ∀ j, w.frozen? ⟨g, j, none⟩ = false) : HoldsK encR 2 w g 0 #[rB, rA] := by
  unfold HoldsK
  rw [flat1]
  intro j hj
  have hj4 : j < 4 := hj
  rw [Nat.zero_add]
  match j, hj4 with
  | 0, _ => exact ⟨h.1, hf 0⟩
  | 1, _ => exact ⟨h.2.1, hf 1⟩
  | 2, _ => exact ⟨h.2.2.1, hf 2⟩
  | 3, _ => exact ⟨h.2.2.2, hf 3⟩
open Go.Shelf Go.Lib Go.Sort in
theorem four_sorted (w : World) (g n : Nat) (os : Array Obj) (h : HoldsK encR 2 w g 0 #[rB, rA]) (hg : g < w.heap.size) : Four (sortWorldK encR 2 w g 0 n #[rA, rB] os) g ⟨#[97]⟩ ⟨#[98]⟩ ⟨#[98]⟩ ⟨#[99]⟩ := by
  have H := holdsK_sortWorldK_c encR 2 w g 0 #[rB, rA] #[rA, rB] n os h hg rfl
  unfold HoldsK at H
  rw [flat2] at H
  have h0 := (H 0 (by decide)).1
  have h1 := (H 1 (by decide)).1
  have h2 := (H 2 (by decide)).1
  have h3 := (H 3 (by decide)).1
  rw [Nat.zero_add] at h0 h1 h2 h3
  exact ⟨h0, h1, h2, h3⟩
theorem frozen_below {w w' : World} {g : Nat} (hg : g < w.heap.size) (hb : Below w.heap.size w w') (h : ∀ j, w.frozen? ⟨g, j, none⟩ = false) : ∀ j, w'.frozen? ⟨g, j, none⟩ = false := by
  intro j
  have e : w'.heap[g]? = w.heap[g]? := hb.block g hg
  have := h j
  unfold World.frozen? at this ⊢
  rw [e]
  exact this
theorem own2 {w : World} {B : Nat} {v x y : Value} (h : w.ownsRow B 27 2 v 1 [x, y]) : ∃ g cap cur, v = .slice (some ⟨g, 0, none⟩) 1 cap ∧ B ≤ g ∧ w.heap[g]? = some (.cells cur 27 (0, 0)) ∧ 1 ≤ cap ∧ cap ≤ maxLen ∧ cur.size = cap * 2 ∧ cur[0]? = some x ∧ cur[1]? = some y := by
  rcases h.2 with ⟨-, h⟩ | ⟨g, cap, cur, rfl, hg, hh, h1, h2, h3, ht⟩
  · cases h
  · have hc : ∀ (j : Nat) (u : Value), ([x, y] : List Value)[j]? = some u → cur[j]? = some u := by
      intro j u hj
      have hl : cur[j]? = cur.toList[j]? := by simp
      rw [← ht, List.getElem?_take] at hj
      split at hj
      · rw [hl]; exact hj
      · cases hj
    exact ⟨g, cap, cur, rfl, hg, hh, h1, h2, h3, hc 0 _ rfl, hc 1 _ rfl⟩
theorem take2 {cur : Array Value} {x y z : Value} (e0 : cur[0]? = some x) (e1 : cur[1]? = some y) : (cur.setIfInBounds 1 z).toList.take (1 * 2) = [x, z] := by
  obtain ⟨l⟩ := cur
  match l, e0, e1 with
  | [], e0, _ => simp at e0
  | [a], _, e1 => simp at e1
  | a :: b :: r, e0, e1 =>
    simp at e0 e1
    subst e0 e1
    simp
theorem R_one {w : World} {B b : Nat} {v : Value} (h : w.ownsRow B 27 2 v 1 [.string ⟨#[97]⟩, .string ⟨#[99]⟩]) (hb : b ≤ B) : Kd.R k27 27 w b (fun _ => True) v [rC] := by
  refine ⟨fun _ _ => trivial, [.string ⟨#[97]⟩, .string ⟨#[99]⟩], own_weaken h hb, rfl, fun j p hj => ?_⟩
  match j with
  | 0 =>
    injection hj with hj
    subst hj
    exact k27_mkM _ _ _ rC
  | j + 1 => simp at hj
set_option maxRecDepth 100000 in
set_option maxHeartbeats 8000000 in
theorem merged2 (w : World) (A : Option Addr) (c : Nat) (hr : Kd.C k27 w A 2 [rB, rA]) (hc : 2 ≤ c) :
    Calls Tryd.prog 38 #[.slice A 2 c] w fun e w' => ∃ v0, e = .returned v0 ∧ Kd.R k27 27 w' w.heap.size (fun _ => True) v0 [rC] ∧ Below w.heap.size w w' := by
  obtain ⟨ad, rfl, -⟩ := hr.2.2 (by decide)
  have HR := Lib.hid hr
  clear hr
  go_enter Tryd.func38, Tryd.ntmps38
  go_upto_region 6 with (first
    | (go_at_call 50; refine (clone2 _ ad c HR.out hc).mono ?_; rintro e w2 ⟨g, cap, rfl, hg, h4, hfz, hb2⟩; have h4 := Lib.hid h4; have hfz := Lib.hid hfz)
    | (go_at_call 51; refine (delete2 _ g cap h4.out).mono ?_; rintro e w3 ⟨rfl, hb3⟩)
    | (go_at_call 53; refine (sort2 _ g cap (holds4 _ g (h4.out.below hb3) (frozen_below (World.block_lt_of_cell? w2 _ h4.out.1) hb3 hfz.out)) (World.block_lt_of_cell? w3 _ (h4.out.below hb3).1)).mono ?_; rintro e w4 ⟨rfl, n, os, hw4⟩; have HW4 := Lib.hid hw4; clear hw4))
  have hg3 : g < w3.heap.size := World.block_lt_of_cell? w3 _ (h4.out.below hb3).1
  have hs := four_sorted w3 g n os (holds4 _ g (h4.out.below hb3) (frozen_below (World.block_lt_of_cell? w2 _ h4.out.1) hb3 hfz.out)) hg3
  have bs : Below w.heap.size w3 w4 := by rw [HW4.out]; exact sort_below hg (Nat.le_trans hb2.size hb3.size)
  rw [← HW4.out] at hs
  have b4 : Below w.heap.size w w4 := (hb2.trans (hb3.mono hb2.size)).trans bs
  have hg4 : g < w4.heap.size := World.block_lt_of_cell? w4 _ hs.1
  have G := Lib.hid (And.intro hs (And.intro b4 hg4))
  clear hs b4 hg4 bs HW4 h4 hfz hb2 hb3 hg3 hg HR hc
  go_loopw [4, 16] (fun v iv wr => Below w4.heap.size w4 wr ∧ ((iv = .int .i64 0 ∧ v = .slice none 0 0) ∨ (iv = .int .i64 1 ∧ wr.ownsRow w4.heap.size 27 2 v 1 [.string ⟨#[97]⟩, .string ⟨#[98]⟩]) ∨ (iv = .int .i64 2 ∧ wr.ownsRow w4.heap.size 27 2 v 1 [.string ⟨#[97]⟩, .string ⟨#[99]⟩]))) (fun _ iv _ => 2 - (intOf iv).toNat)
  case atStart => exact ⟨Below.refl _ _, .inl ⟨rfl, rfl⟩⟩
  case round =>
    obtain ⟨hb, hrel⟩ := hrel
    have h4 := G.out.1.below hb
    obtain ⟨c0, c1, c2, c3⟩ := h4
    have hsz := hb.size
    have HB := Lib.hid (And.intro hb hsz)
    clear hb hsz
    rcases hrel with ⟨rfl, rfl⟩ | ⟨rfl, hown⟩ | ⟨rfl, hown⟩
    · go_upto_region 9 with (fail)
      repeat (go_quiet (fail); try go_upto_region 10 with (fail))
      refine abs_m ?_
      intro w5 hw5
      have g5 : w5.heap[wr.heap.size]? = some (.cells #[.string ⟨#[97]⟩, .string ⟨#[98]⟩] 27 (0, 0)) := by rw [hw5]; exact heap_alloc_new wr _
      have b5 : Below wr.heap.size wr w5 := by rw [hw5]; first | exact pw_below_drewN ((Below.refl _ _).alloc (Nat.le_refl _) _) _ | exact ((Below.refl _ _).alloc (Nat.le_refl _) _).drew
      have t0 : w5.cell? ⟨wr.heap.size, 0, none⟩ = some (.string ⟨#[97]⟩) := cell_of_row w5 _ 0 _ _ _ g5
      have t1 : w5.cell? ⟨wr.heap.size, 1, none⟩ = some (.string ⟨#[98]⟩) := cell_of_row w5 _ 1 _ _ _ g5
      have B5 := Lib.hid (HB.out.1.trans (b5.mono HB.out.2))
      have S5 := Lib.hid (Nat.le_trans HB.out.2 b5.size)
      clear hw5 b5 c0 c1 c2 c3
      go_wp2_with (first
        | (at_builtin; refine print_append_cells (w0 := w4) w4.heap.size rfl (.tmp 43) (.tmp 45) 35 27 (.agg #[.string ⟨#[]⟩, .string ⟨#[]⟩]) 2 32 rfl Tryd.underlying35 infoR rfl (by decide) (by decide) (.slice none 0 0) 0 [] [.string ⟨#[97]⟩, .string ⟨#[98]⟩] rfl rfl rfl (by intro u hu; simp at hu; rcases hu with rfl | rfl <;> rfl) ⟨rfl, .inl ⟨rfl, rfl⟩⟩ B5.out S5.out (by decide) ?_; intro v6 w6 hown6 hb6 hg6 hat6))
      exact ⟨⟨hb6, .inr (.inl ⟨by first | rfl | go_num, hown6⟩)⟩, by simp [intOf]⟩
    · obtain ⟨go, co, cur, rfl, hgo, hh, h1, h2, h3, e0, e1⟩ := own2 hown
      have hlt : go < wr.heap.size := by rcases Nat.lt_or_ge go wr.heap.size with h | h; exact h; rw [Array.getElem?_eq_none h] at hh; cases hh
      have o0 : wr.cell? ⟨go, 0, none⟩ = some (.string ⟨#[97]⟩) := (cell_of_row wr go 0 _ _ _ hh).trans e0
      have o1 : wr.cell? ⟨go, 1, none⟩ = some (.string ⟨#[98]⟩) := (cell_of_row wr go 1 _ _ _ hh).trans e1
      have fo := frozen_of_row wr go 1 _ _ hh
      have HO := Lib.hid (And.intro hgo (And.intro hh (And.intro h1 (And.intro h2 (And.intro h3 (And.intro hlt (And.intro e0 e1)))))))
      clear hgo hh h1 h2 h3 e0 e1 hown
      go_upto_region 9 with (fail)
      repeat (go_quiet (fail); try go_wp2)
      have bw : ∀ m, Below wr.heap.size wr ((wr.alloc (.cells #[.string ⟨#[98]⟩, .string ⟨#[99]⟩] 27)).drewN m) := fun m => pw_below_drewN ((Below.refl _ _).alloc (Nat.le_refl _) _) m
      obtain ⟨hgo, hh, h1, h2, h3, hlt, e0, e1⟩ := HO.out
      refine ⟨⟨(HB.out.1.trans ((bw _).mono HB.out.2)).setCell hgo _, .inr (.inr ⟨rfl, rfl, .inr ⟨go, co, cur.setIfInBounds 1 (.string ⟨#[99]⟩), rfl, hgo, heap_setCell_same _ go 1 _ 27 _ (((bw _).block go hlt).trans hh), h1, h2, by rw [Array.size_setIfInBounds]; exact h3, take2 e0 e1⟩⟩)⟩, by simp [intOf]⟩
    · go_wp2
      go_ret
      exact ⟨_, rfl, R_one hown (Nat.le_trans G.out.2.1.size (Nat.le_refl _)), G.out.2.1.trans (HB.out.1.mono G.out.2.1.size)⟩
/-! #### any ranges -/
abbrev lessB := Op.bytesLess
theorem lessB_cons (x y : UInt8) (xs ys : List UInt8) : lessB (x :: xs) (y :: ys) = true ↔ x.toNat < y.toNat ∨ (x.toNat = y.toNat ∧ lessB xs ys = true) := by
  simp only [lessB, Op.bytesLess, Bool.or_eq_true, decide_eq_true_eq, Bool.and_eq_true, beq_iff_eq, UInt8.lt_iff_toNat_lt, ← UInt8.toNat_inj]
theorem lessB_nil (xs : List UInt8) : lessB xs [] = false := by cases xs <;> rfl
theorem nil_lessB (y : UInt8) (ys : List UInt8) : lessB [] (y :: ys) = true := rfl
theorem lessB_mid : ∀ b t a : List UInt8, lessB b t = true → lessB a t = false → lessB b a = true
  | b, [], a, h, _ => by rw [lessB_nil] at h; cases h
  | [], t :: T, [], _, h => by rw [nil_lessB] at h; cases h
  | [], t :: T, z :: a, _, _ => nil_lessB z a
  | y :: b, t :: T, [], _, h => by rw [nil_lessB] at h; cases h
  | y :: b, t :: T, z :: a, h, k => by
    rw [lessB_cons] at h ⊢
    have k' : ¬ (z.toNat < t.toNat ∨ (z.toNat = t.toNat ∧ lessB a T = true)) := by rw [← lessB_cons]; simp [k]
    have k1 : ¬ z.toNat < t.toNat := fun h => k' (.inl h)
    rcases h with h | ⟨h, h2⟩
    · exact .inl (by omega)
    · by_cases e : z.toNat = t.toNat
      · refine .inr ⟨by omega, lessB_mid b T a h2 ?_⟩
        cases hl : lessB a T with
        | false => rfl
        | true => exact absurd (.inr ⟨e, hl⟩) k'
      · exact .inl (by omega)
theorem lessB_irrefl : ∀ a : List UInt8, lessB a a = false
  | [] => rfl
  | x :: a => by
    cases h : lessB (x :: a) (x :: a) with
    | false => rfl
    | true =>
      rw [lessB_cons, lessB_irrefl a] at h
      rcases h with h | ⟨-, h⟩
      · omega
      · cases h
theorem lessB_asymm : ∀ a b : List UInt8, lessB a b = true → lessB b a = false
  | _, [], h => by rw [lessB_nil] at h; cases h
  | [], y :: b, _ => lessB_nil _
  | x :: a, y :: b, h => by
    rw [lessB_cons] at h
    cases k : lessB (y :: b) (x :: a) with
    | false => rfl
    | true =>
      rw [lessB_cons] at k
      rcases h with h | ⟨h, h2⟩ <;> rcases k with k | ⟨k, k2⟩
      · omega
      · omega
      · omega
      · rw [lessB_asymm a b h2] at k2; cases k2
def cfR (x y : S27) : Int := Lib.compareBytes x.f0.data.toList y.f0.data.toList
theorem compare_lt : ∀ a b : List UInt8, Lib.compareBytes a b < 0 ↔ lessB a b = true
  | [], [] => by simp [Lib.compareBytes, lessB_nil]
  | [], y :: b => by simp [Lib.compareBytes, nil_lessB]
  | x :: a, [] => by simp [Lib.compareBytes, lessB_nil]
  | x :: a, y :: b => by
    rw [lessB_cons, ← compare_lt a b, Lib.compareBytes]
    by_cases h1 : x < y
    · have := UInt8.lt_iff_toNat_lt.1 h1
      rw [if_pos h1]; omega
    · have h1' : ¬ x.toNat < y.toNat := fun h => h1 (UInt8.lt_iff_toNat_lt.2 h)
      rw [if_neg h1]
      by_cases h2 : y < x
      · have := UInt8.lt_iff_toNat_lt.1 h2
        rw [if_pos h2]; omega
      · have h2' : ¬ y.toNat < x.toNat := fun h => h2 (UInt8.lt_iff_toNat_lt.2 h)
        rw [if_neg h2]; omega
open Go.Shelf Go.Lib Go.Sort in
theorem lt_cfR (x y : S27) : ltOf cfR x y = lessB x.f0.data.toList y.f0.data.toList := by
  unfold ltOf cfR
  cases h : lessB x.f0.data.toList y.f0.data.toList with
  | true => exact decide_eq_true ((compare_lt _ _).2 h)
  | false => exact decide_eq_false (fun k => by rw [(compare_lt _ _).1 k] at h; cases h)
open Go.Shelf Go.Lib Go.Sort in
theorem swoR : SWO (ltOf cfR) where
  irrefl x := by rw [lt_cfR]; exact lessB_irrefl _
  trans x y z h1 h2 := by rw [lt_cfR] at *; exact lessB_mid _ _ _ h1 (lessB_asymm _ _ h2)
  ntrans x y z h1 h2 := by
    rw [lt_cfR] at *
    cases h : lessB x.f0.data.toList z.f0.data.toList with
    | false => rfl
    | true => rw [lessB_mid _ _ _ h h2] at h1; cases h1
open Go.Shelf Go.Lib Go.Sort in
/-- The ranges in the order in which the library's sort lays them. -/
def sortR (l : List S27) : List S27 := if l.length = 0 then [] else (pdq (ltOf cfR) l.toArray 0 l.toArray.size (Lib.bitLen l.toArray.size) true true).toList
set_option maxRecDepth 100000 in
theorem clone_gen (w : World) (A : Option Addr) (c : Nat) (l : List S27) (hr : Kd.C k27 w A l.length l) (hc : l.length ≤ c) (hn : l.length ≤ 4294967296) :
    Calls Tryd.prog 50 #[.slice A l.length c] w fun e w' => ∃ v1, e = .returned v1 ∧ Kd.R k27 27 w' w.heap.size (fun _ => True) v1 l ∧ Below w.heap.size w w' := by
  cases A with
  | none =>
    have h0 : l = [] := by
      cases l with
      | nil => rfl
      | cons a r =>
        obtain ⟨ad, h, -⟩ := hr.2.2 (by simp)
        cases h
    subst h0
    have heq : ∀ W : World, (binOp .eql 35 (.slice none 0 c) (.slice none 0 0)).run Tryd.prog W = .ok (.bool true) W := by
      intro W
      have h : (Op.equalIn (9999 + 1) 35 (.slice none 0 c) (.slice none 0 0)).run Tryd.prog W = .ok true W := by
        rw [Op.equalIn]
        simp only [Sem.run_bind, run_underlying Tryd.underlying35, Result.andThen_ok]
        rfl
      have h2 : (Op.equal 35 (.slice none 0 c) (.slice none 0 0)).run Tryd.prog W = .ok true W := h
      simp only [binOp, Sem.run_bind, h2, Result.andThen_ok, Sem.run_pure]
    rw [List.length_nil]
    clear hr hc hn
    go_enter Tryd.func50, Tryd.ntmps50
    go_wp2
    go_ret
    exact ⟨_, rfl, Kd.R_nil _ _ _ _ _, Below.refl _ _⟩
  | some ad =>
    have HR := Lib.hid (And.intro hr hn)
    have hm := Kd.C_max hr
    clear hr hn
    obtain ⟨n, hne⟩ : ∃ n, RowKit.Hid (n = l.length) := ⟨_, Lib.hid rfl⟩
    rw [← hne.out] at HR hm hc ⊢
    have heq : ∀ W : World, (binOp .eql 35 (.slice (some ad) n c) (.slice none 0 0)).run Tryd.prog W = .ok (.bool false) W := by
      intro W
      have h : (Op.equalIn (9999 + 1) 35 (.slice (some ad) n c) (.slice none 0 0)).run Tryd.prog W = .ok false W := by
        rw [Op.equalIn]
        simp only [Sem.run_bind, run_underlying Tryd.underlying35, Result.andThen_ok]
        rfl
      have h2 : (Op.equal 35 (.slice (some ad) n c) (.slice none 0 0)).run Tryd.prog W = .ok false W := h
      simp only [binOp, Sem.run_bind, h2, Result.andThen_ok, Sem.run_pure]
    go_enter Tryd.func50, Tryd.ntmps50
    go_wp2_with (first
      | (at_builtin; refine Kd.R_append_rows k27 (Rr := k27.K w) (w0 := w) w.heap.size rfl (.tmp 5) (.tmp 6) 35 27 (.agg #[.string ⟨#[]⟩, .string ⟨#[]⟩]) 32 rfl Tryd.underlying35 infoR rfl (by decide) (by decide) (.slice (some ⟨w.heap.size, 0, none⟩) 0 0) [] l (some ad) n c (fun _ => True) (fun _ => False) rfl rfl (R_empty _ _ w.heap.size (Nat.le_refl _) (heap_alloc_new w _)) (Kd.C_below HR.out.1 ((Below.refl _ _).alloc (Nat.le_refl _) _)) (fun x cs h => by rw [k27_open h]; exact k27_mkM _ _ _ x) (fun _ h => h.elim) (fun _ _ => trivial) ((Below.refl _ _).alloc (Nat.le_refl _) _) (by rw [World.size_alloc]; omega) (by have := HR.out.2; simp; omega) ?_; intro v1 w1 hR1 hb1 hg1 hat1))
    go_ret
    exact ⟨_, rfl, hR1, hb1⟩
set_option maxRecDepth 100000 in
theorem index_gen (w : World) (A : Option Addr) (c : Nat) (l : List S27) (hr : Kd.C k27 w A l.length l) (hc : l.length ≤ c) (hne : ∀ x ∈ l, span_Empty.f x.f0 x.f1 = some false) :
    Calls Tryd.prog 70 #[.slice A l.length c, .func (.func 52) #[] #[]] w fun e w' => e = .returned (.int .i64 (-1)) ∧ Below w.heap.size w w' := by
  have hm := Kd.C_max hr
  have HR := Lib.hid (And.intro hr hne)
  clear hr hne
  obtain ⟨n, hn⟩ : ∃ n, RowKit.Hid (n = l.length) := ⟨_, Lib.hid rfl⟩
  rw [← hn.out] at hm hc ⊢
  go_enter Tryd.func70, Tryd.ntmps70
  go_upto_region 2 with (fail)
  go_loopw [8] (fun v wr => ∃ i : Nat, i ≤ n ∧ v = .int .i64 i ∧ Below w.heap.size w wr) (fun v _ => n - (intOf v).toNat)
  case atStart => exact ⟨0, by omega, rfl, Below.refl _ _⟩
  case round =>
    obtain ⟨i, hi, rfl, hb⟩ := hrel
    have hz := hb.size
    by_cases hlt : i < n
    · have l16 : (0 : Int) ≤ (i : Int) := by omega
      have u16 : (i : Int) < (n : Int) := by omega
      have hi3 : i < l.length := by rw [← hn.out]; exact hlt
      obtain ⟨ad, eA, x0, x1⟩ := at_T27 (Kd.C_below HR.out.1 hb) (i : Int) l16 (by omega)
      have he := HR.out.2 (rd_T27 l (i : Int)) (by unfold rd_T27; simp [List.getD, List.getElem?_eq_getElem hi3])
      simp only [Int.toNat_natCast] at x0 x1
      obtain ⟨r, hrr⟩ : ∃ r, RowKit.Hid (r = rd_T27 l (i : Int)) := ⟨_, Lib.hid rfl⟩
      rw [← hrr.out] at x0 x1 he
      have hE := Lib.hid he
      replace l16 := eq_true l16
      replace u16 := eq_true u16
      cases eA
      have HB := Lib.hid hb
      clear he hb hi3
      go_wp2_with (first
        | (go_at_call 52; refine (emp r hE.out _).mono ?_; rintro e w2 ⟨rfl, hb2⟩))
      exact ⟨⟨i + 1, by omega, by go_num, HB.out.trans (hb2.mono hz)⟩, by simp [intOf]; omega⟩
    · obtain rfl : i = n := by omega
      have hlt' : ¬ ((i : Int) < (i : Int)) := by omega
      go_wp2
      go_ret
      exact ⟨rfl, hb⟩
set_option maxRecDepth 100000 in
theorem delete_gen (w : World) (A : Option Addr) (c : Nat) (l : List S27) (hr : Kd.C k27 w A l.length l) (hc : l.length ≤ c) (hne : ∀ x ∈ l, span_Empty.f x.f0 x.f1 = some false) :
    Calls Tryd.prog 51 #[.slice A l.length c, .func (.func 52) #[] #[]] w fun e w' => e = .returned (.slice A l.length c) ∧ Below w.heap.size w w' := by
  have hi := index_gen w A c l hr hc hne
  clear hr hc hne
  obtain ⟨n, hn⟩ : ∃ n, RowKit.Hid (n = l.length) := ⟨_, Lib.hid rfl⟩
  rw [← hn.out] at hi ⊢
  go_enter Tryd.func51, Tryd.ntmps51
  go_wp2_with (first
    | (go_at_call 70; refine hi.mono ?_; rintro e w2 ⟨rfl, hb2⟩))
  go_ret
  exact ⟨rfl, hb2⟩
open Go.Shelf Go.Lib Go.Sort in
theorem sort_gen (w : World) (blk cap : Nat) (l : List S27) (h0 : l.length ≠ 0) (hn : l.length ≤ 4294967296) (hH : HoldsK encR 2 w blk 0 l.toArray) (hblk : blk < w.heap.size) :
    Calls Tryd.prog 53 #[.slice (some ⟨blk, 0, none⟩) l.length cap, .func (.func 54) #[] #[]] w fun e w' => e = .returned (.tuple #[]) ∧ ∃ n os, w' = sortWorldK encR 2 w blk 0 n (sortR l).toArray os := by
  have eg : ∀ args w, (callFunc 54 args).run Tryd.prog w = .ok (.enter 54 args) w := enters_of Tryd.func54 (by kernel_rfl) rfl
  have hcon := AnyQ.slices_SortFunc_eq Tryd.sortR 2 Tryd.isAgg27 Tryd.sizeOf27 encR (fun _ => rfl) (fun x v hv => by simp [encR] at hv; rcases hv with rfl | rfl <;> rfl) cfR swoR 54 #[] blk 0 cap l.toArray w eg (fun _ _ _ _ x y => clo x y _) hH hblk (by simp; omega)
  change Calls Tryd.prog 53 _ _ _ at hcon
  refine hcon.mono ?_
  rintro e w' ⟨rfl, n, os, rfl⟩
  refine ⟨rfl, n, os, ?_⟩
  unfold sortR
  rw [if_neg h0]
/-- One round of merged. -/
def stepR (out : List S27) (r : S27) : List S27 :=
  match out.getLast? with
  | none => [r]
  | some l => if l.f1.toList = [] then out else if lessB l.f1.toList r.f0.toList = true then out ++ [r] else if r.f1.toList = [] then out.dropLast ++ [⟨l.f0, r.f1⟩] else if lessB l.f1.toList r.f1.toList = true then out.dropLast ++ [⟨l.f0, r.f1⟩] else out
theorem stepR_len (out : List S27) (r : S27) : (stepR out r).length ≤ out.length + 1 := by
  unfold stepR
  split
  · simp
  · rename_i l h
    have hp : 0 < out.length := by cases out with | nil => simp at h | cons a b => simp
    repeat' split
    all_goals simp
    all_goals omega
theorem fold_len (l : List S27) : ∀ out, (l.foldl stepR out).length ≤ out.length + l.length := by
  induction l with
  | nil => intro out; simp
  | cons a l ih => intro out; have := ih (stepR out a); have := stepR_len out a; simp only [List.foldl_cons, List.length_cons]; omega
theorem fold_snoc (l : List S27) (i : Nat) (h : i < l.length) : (l.take (i + 1)).foldl stepR [] = stepR ((l.take i).foldl stepR []) (rd_T27 l (i : Int)) := by
  have e : rd_T27 l (i : Int) = l[i] := by unfold rd_T27; simp [List.getD, List.getElem?_eq_getElem h]
  rw [e, List.take_add_one, List.getElem?_eq_getElem h, List.foldl_append]
  rfl
/-- The last range of a row of one's own: its cells, and how it is overwritten. -/
theorem last_row {w : World} {B : Nat} {v : Value} {out : List S27} {l : S27} (h : Kd.R k27 27 w B (fun _ => True) v (out ++ [l])) :
    ∃ g cap cur, v = .slice (some ⟨g, 0, none⟩) (out.length + 1) cap ∧ B ≤ g ∧ g < w.heap.size ∧ out.length + 1 ≤ cap ∧ w.heap[g]? = some (.cells cur 27 (0, 0)) ∧ cur[out.length * 2]? = some (.string l.f0) ∧ cur[out.length * 2 + 1]? = some (.string l.f1) ∧
      ∀ (W : World) (s : ByteArray), W.heap[g]? = some (.cells (cur.setIfInBounds (out.length * 2 + 1) (.string s)) 27 (0, 0)) → Kd.R k27 27 W B (fun _ => True) v (out ++ [⟨l.f0, s⟩]) := by
  obtain ⟨h0, inner, ho, hreps⟩ := h
  have hl : (out ++ [l]).length = out.length + 1 := by simp
  rcases ho.2 with ⟨-, h⟩ | ⟨g, cap, cur, hv, hg, hh, h1, h2, h3, ht⟩
  · rw [hl] at h; omega
  · have hlt : g < w.heap.size := by rcases Nat.lt_or_ge g w.heap.size with h | h; exact h; rw [Array.getElem?_eq_none h] at hh; cases hh
    have hs2 : k27.sz = 2 := rfl
    rw [hl] at h1 ht
    rw [hs2] at h3 ht
    have hil : inner.length = (out.length + 1) * 2 := by rw [hreps.1, hl, hs2]
    have hK := k27_openM (hreps.2 out.length l (by simp))
    rw [hs2] at hK
    have hcur : ∀ j u, j < (out.length + 1) * 2 → inner[j]? = some u → cur[j]? = some u := by
      intro j u hj hu
      rw [← ht, List.getElem?_take, if_pos hj] at hu
      rw [← hu]; simp
    have hin : ∀ j, j < 2 → inner[out.length * 2 + j]? = ([.string l.f0, .string l.f1] : List Value)[j]? := by
      intro j hj
      rw [← hK, List.getElem?_take, if_pos hj, List.getElem?_drop]
    refine ⟨g, cap, cur, by rw [hv, hl], hg, hlt, h1, hh, hcur _ _ (by omega) (hin 0 (by omega)), hcur _ _ (by omega) (hin 1 (by omega)), fun W s hW => ?_⟩
    have hl2 : (out ++ [(⟨l.f0, s⟩ : S27)]).length = out.length + 1 := by simp
    refine ⟨fun _ _ => trivial, inner.set (out.length * 2 + 1) (.string s), ⟨?_, .inr ⟨g, cap, _, by rw [hv, hl, hl2], hg, hW, ?_, h2, ?_, ?_⟩⟩, ?_, fun j p hj => ?_⟩
    · rw [List.length_set, hl2, hil, hs2]
    · rw [hl2]; exact h1
    · rw [Array.size_setIfInBounds, hs2]; exact h3
    · rw [hl2, hs2, Array.toList_setIfInBounds, List.take_set, ht]
    · rw [List.length_set, hl2, hil, hs2]
    · rw [hs2]
      rcases Nat.lt_or_ge j out.length with hj2 | hj2
      · rw [List.getElem?_append_left hj2] at hj
        have h5 := hreps.2 j p (by rw [List.getElem?_append_left hj2]; exact hj)
        rw [hs2] at h5
        have e : ((inner.set (out.length * 2 + 1) (.string s)).drop (j * 2)).take 2 = (inner.drop (j * 2)).take 2 := by
          apply List.ext_getElem?
          intro q
          rw [List.getElem?_take, List.getElem?_take]
          split
          · rw [List.getElem?_drop, List.getElem?_drop, List.getElem?_set_ne (by omega)]
          · rfl
        rw [e, k27_openM h5]
        exact k27_mkM _ _ _ p
      · rw [List.getElem?_append_right hj2] at hj
        have hj3 : j - out.length = 0 := by
          rcases Nat.eq_zero_or_pos (j - out.length) with h | h
          · exact h
          · rw [List.getElem?_eq_none (by simp; omega)] at hj; cases hj
        rw [hj3] at hj
        injection hj with hj
        subst hj
        obtain rfl : j = out.length := by omega
        have e : ((inner.set (out.length * 2 + 1) (.string s)).drop (out.length * 2)).take 2 = [.string l.f0, .string s] := by
          apply List.ext_getElem?
          intro q
          rw [List.getElem?_take]
          split
          · rename_i hq
            rw [List.getElem?_drop]
            match q, hq with
            | 0, _ => rw [List.getElem?_set_ne (by omega), hin 0 (by omega)]; rfl
            | 1, _ => rw [List.getElem?_set_self (by omega)]; rfl
          · rw [List.getElem?_eq_none (by simp; omega)]
        rw [e]
        exact k27_mkM _ _ _ ⟨l.f0, s⟩
open Go.Shelf Go.Lib Go.Sort in
theorem sortR_both (l : List S27) : (sortR l).Perm l ∧ ∀ i j, i < j → j < l.length → lessB ((sortR l).toArray[j]!).f0.data.toList ((sortR l).toArray[i]!).f0.data.toList = false := by
  unfold sortR
  by_cases h : l.length = 0
  · rw [if_pos h]
    have : l = [] := List.eq_nil_of_length_eq_zero h
    subst this
    exact ⟨List.Perm.refl _, fun i j _ hj => by simp at hj⟩
  · rw [if_neg h]
    have hp := pdq_sorts (ltOf cfR) swoR l.toArray 0 l.toArray.size (Lib.bitLen l.toArray.size) true true (Nat.zero_le _) (Nat.le_refl _) (Or.inl rfl)
    refine ⟨?_, fun i j hij hj => ?_⟩
    · have h2 := hp.1.2.2
      have hs := hp.1.1
      have e1 : (l.toArray.extract 0 l.toArray.size).toList = l := by simp
      rw [e1] at h2
      have e2 : ∀ (d : Array S27), d.size = l.toArray.size → (d.extract 0 l.toArray.size).toList = d.toList := by
        intro d hd
        rw [← hd]; simp
      rw [e2 _ hs] at h2
      exact h2
    · have h2 := hp.2 i j (Nat.zero_le _) hij (by simpa using hj)
      rw [lt_cfR] at h2
      exact h2
theorem sortR_len (l : List S27) : (sortR l).length = l.length := (sortR_both l).1.length_eq
open Go.Shelf Go.Lib Go.Sort in
theorem sort_row (w : World) (v : Value) (l : List S27) (base : Nat) (hR : Kd.R k27 27 w base (fun _ => True) v l) (hn : l.length ≤ 4294967296) (hbw : base ≤ w.heap.size) :
    ∃ A c, v = .slice A l.length c ∧ l.length ≤ c ∧ Calls Tryd.prog 53 #[v, .func (.func 54) #[] #[]] w fun e w' => e = .returned (.tuple #[]) ∧ Kd.C k27 w' A l.length (sortR l) ∧ Go.RowKit.Below base w w' := by
  by_cases h0 : l.length = 0
  · have hl : l = [] := List.eq_nil_of_length_eq_zero h0
    subst hl
    obtain ⟨A, c, hv, hc, -⟩ := Kd.R_reads hR
    subst hv
    refine ⟨A, c, rfl, hc, ?_⟩
    have hcon := AnyF.slices_SortFunc_none Tryd.sortR A c (.func (.func 54) #[] #[]) w
    change Calls Tryd.prog 53 _ _ _ at hcon
    refine hcon.mono ?_
    rintro e w' ⟨rfl, rfl⟩
    exact ⟨rfl, ⟨rfl, by simp, fun h => by simp at h⟩, Go.RowKit.Below.refl _ _⟩
  · obtain ⟨-, inner, ho, hreps⟩ := hR
    rcases ho.2 with ⟨-, h⟩ | ⟨g, cap, cur, hv, hg, hh, h1, h2, h3, ht⟩
    · exact absurd h h0
    · subst hv
      have hlt : g < w.heap.size := by rcases Nat.lt_or_ge g w.heap.size with h | h; exact h; rw [Array.getElem?_eq_none h] at hh; cases hh
      have hs2 : k27.sz = 2 := rfl
      rw [hs2] at ht h3
      refine ⟨some ⟨g, 0, none⟩, cap, rfl, h1, ?_⟩
      have hil : inner.length = l.length * 2 := by rw [hreps.1, hs2]
      have hcell : ∀ i, i < l.length → ∀ q, q < 2 → cur[i * 2 + q]? = (encR l.toArray[i]!)[q]? := by
        intro i hi q hq
        have hK := k27_openM (hreps.2 i l[i] (List.getElem?_eq_getElem hi))
        rw [hs2] at hK
        have e1 : inner[i * 2 + q]? = ([.string l[i].f0, .string l[i].f1] : List Value)[q]? := by
          rw [← hK, List.getElem?_take, if_pos hq, List.getElem?_drop]
        have e2 : cur[i * 2 + q]? = inner[i * 2 + q]? := by
          rw [← ht, List.getElem?_take, if_pos (by omega)]; simp
        have e3 : l.toArray[i]! = l[i] := by simp [hi]
        rw [e2, e1, e3]
        rfl
      have hH : HoldsK encR 2 w g 0 l.toArray := by
        intro j hj
        rw [size_flatK] at hj
        have hj' : j < l.length * 2 := by simpa using hj
        rw [get_flatK _ _ _ _ hj, Nat.zero_add]
        refine ⟨?_, frozen_of_row w g j _ _ hh⟩
        rw [cell_of_row w g j _ _ _ hh]
        have h5 := hcell (j / 2) (by omega) (j % 2) (by omega)
        rw [show j / 2 * 2 + j % 2 = j by omega] at h5
        rw [h5]
        have hlen : j % 2 < (encR l.toArray[j / 2]!).length := by show j % 2 < 2; omega
        rw [List.getElem?_eq_getElem hlen]
        exact congrArg some (getElem!_pos (encR l.toArray[j / 2]!) (j % 2) hlen).symm
      refine (sort_gen w g cap l h0 hn hH hlt).mono ?_
      rintro e w' ⟨rfl, n, os, rfl⟩
      have hsz : (sortR l).toArray.size = l.toArray.size := by simp [sortR_len]
      have HK := holdsK_sortWorldK_c encR 2 w g 0 l.toArray (sortR l).toArray n os hH hlt hsz
      refine ⟨rfl, ⟨sortR_len l, by unfold maxLen at h2; omega, fun _ => ⟨_, rfl, fun j p hj => ⟨encR p, rfl, k27_mk _ p, fun q u hu => ?_⟩⟩⟩, sort_below hg hbw⟩
      have hjl : j < (sortR l).length := by
        rcases Nat.lt_or_ge j (sortR l).length with h | h
        · exact h
        · rw [List.getElem?_eq_none h] at hj; cases hj
      have hq : q < 2 := by
        rcases Nat.lt_or_ge q 2 with h | h
        · exact h
        · rw [List.getElem?_eq_none (show (encR p).length ≤ q from h)] at hu; cases hu
      have h6 := (HoldsK.cell HK (i := j) (c := q) (by simpa using hjl) hq).1
      rw [hs2, Addr.add_lit]
      rw [Nat.zero_add] at h6 ⊢
      rw [h6]
      have e3 : (sortR l).toArray[j]! = p := by
        have := List.getElem?_eq_some_iff.1 hj
        obtain ⟨h7, h8⟩ := this
        simp [h7, h8]
      rw [e3]
      have hlen : q < (encR p).length := hq
      rw [List.getElem?_eq_getElem hlen] at hu
      rw [← hu]
      simp [getElem!_pos, hlen]
theorem step_nil (r : S27) : stepR [] r = [r] := rfl
theorem step_snoc (out : List S27) (l r : S27) : stepR (out ++ [l]) r = if l.f1.toList = [] then out ++ [l] else if lessB l.f1.toList r.f0.toList = true then out ++ [l] ++ [r] else if r.f1.toList = [] then out ++ [⟨l.f0, r.f1⟩] else if lessB l.f1.toList r.f1.toList = true then out ++ [⟨l.f0, r.f1⟩] else out ++ [l] := by
  unfold stepR
  simp
set_option maxRecDepth 100000 in
set_option maxHeartbeats 16000000 in
theorem merged_gen (w : World) (A : Option Addr) (c : Nat) (l : List S27) (hr : Kd.C k27 w A l.length l) (hc : l.length ≤ c) (hn : l.length ≤ 4294967296) (hne : ∀ x ∈ l, span_Empty.f x.f0 x.f1 = some false) :
    Calls Tryd.prog 38 #[.slice A l.length c] w fun e w' => ∃ v0, e = .returned v0 ∧ Kd.R k27 27 w' w.heap.size (fun _ => True) v0 ((sortR l).foldl stepR []) ∧ Below w.heap.size w w' := by
  have hclone := clone_gen w A c l hr hc hn
  have hdel : ∀ W A1 c1, Kd.C k27 W A1 l.length l → l.length ≤ c1 → Calls Tryd.prog 51 #[.slice A1 l.length c1, .func (.func 52) #[] #[]] W fun e w' => e = .returned (.slice A1 l.length c1) ∧ Below W.heap.size W w' := fun W A1 c1 h1 h2 => delete_gen W A1 c1 l h1 h2 hne
  have hsort : ∀ W A1 c1, Kd.R k27 27 W w.heap.size (fun _ => True) (.slice A1 l.length c1) l → w.heap.size ≤ W.heap.size → Calls Tryd.prog 53 #[.slice A1 l.length c1, .func (.func 54) #[] #[]] W fun e w' => e = .returned (.tuple #[]) ∧ Kd.C k27 w' A1 l.length (sortR l) ∧ Below w.heap.size W w' := by
    intro W A1 c1 h1 h2
    obtain ⟨A2, c2, e, -, h3⟩ := sort_row W _ l w.heap.size h1 hn h2
    injection e with e1 e2 e3
    subst e1 e3
    exact h3
  have hm := Kd.C_max hr
  have hdl := sortR_len l
  obtain ⟨d, hd⟩ : ∃ d, RowKit.Hid (d = sortR l) := ⟨_, Lib.hid rfl⟩
  obtain ⟨n, hnn⟩ : ∃ n, RowKit.Hid (n = l.length) := ⟨_, Lib.hid rfl⟩
  rw [← hd.out] at hsort hdl ⊢
  rw [← hnn.out] at hclone hdel hsort hm hdl hc hn ⊢
  have HN := Lib.hid (And.intro hn hdl)
  clear hr hn hne hd hdl
  go_enter Tryd.func38, Tryd.ntmps38
  go_upto_region 6 with (first
    | (go_at_call 50; refine hclone.mono ?_; rintro e w2 ⟨v1, rfl, hR1, hb2⟩; obtain ⟨A1, c1, rfl, hc1, hC1⟩ := Kd.R_reads hR1; rw [← hnn.out] at hR1 hC1 hc1 ⊢; have hR1 := Lib.hid hR1; have hC1 := Lib.hid hC1)
    | (go_at_call 51; refine (hdel _ A1 c1 hC1.out hc1).mono ?_; rintro e w3 ⟨rfl, hb3⟩)
    | (go_at_call 53; refine (hsort w3 A1 c1 (Kd.R_below hR1.out hb3) (Nat.le_trans hb2.size hb3.size)).mono ?_; rintro e w4 ⟨rfl, hC4, hb4⟩; have hC4 := Lib.hid hC4))
  have b4 : Below w.heap.size w w4 := (hb2.trans (hb3.mono hb2.size)).trans hb4
  have G := Lib.hid (And.intro hC4.out b4)
  clear hC4 b4 hb4 hb3 hb2 hR1 hC1 hclone hdel hsort hc1 hc
  go_loopw [4, 16] (fun v iv wr => ∃ i : Nat, i ≤ n ∧ iv = .int .i64 i ∧ Kd.R k27 27 wr w4.heap.size (fun _ => True) v ((d.take i).foldl stepR []) ∧ Below w4.heap.size w4 wr) (fun _ iv _ => n - (intOf iv).toNat)
  case atStart => exact ⟨0, by omega, rfl, Kd.R_nil _ _ _ _ _, Below.refl _ _⟩
  case round =>
    obtain ⟨i, hi, rfl, hR, hb⟩ := hrel
    by_cases hlt : i < n
    · have l16 : (0 : Int) ≤ (i : Int) := by omega
      have u16 : (i : Int) < (n : Int) := by omega
      have hi3 : i < d.length := by rw [HN.out.2]; exact hlt
      obtain ⟨ad, eA, x0, x1⟩ := at_T27 (Kd.C_below G.out.1 hb) (i : Int) l16 (by omega)
      simp only [Int.toNat_natCast] at x0 x1
      have eN := fold_snoc d i hi3
      have hol := fold_len (d.take i) []
      rw [List.length_take] at hol
      obtain ⟨r, hrr⟩ : ∃ r, RowKit.Hid (r = rd_T27 d (i : Int)) := ⟨_, Lib.hid rfl⟩
      rw [← hrr.out] at x0 x1 eN
      obtain ⟨out, hout⟩ : ∃ out, RowKit.Hid (out = (d.take i).foldl stepR []) := ⟨_, Lib.hid rfl⟩
      rw [← hout.out] at eN hR hol
      have hou : out.length ≤ n := by simp at hol; omega
      have E := Lib.hid (And.intro eN (And.intro hou HN.out.1))
      replace l16 := eq_true l16
      replace u16 := eq_true u16
      cases eA
      have hsz := hb.size
      have HB := Lib.hid (And.intro hb hsz)
      clear hb hsz eN hol hou hi3 hrr hout
      obtain ⟨f0, f1⟩ := r
      simp only at x0 x1
      rcases List.eq_nil_or_concat out with rfl | ⟨o', lst, hcc⟩
      · obtain ⟨Av, cv, rfl, hcv, -⟩ := Kd.R_reads hR
        rw [List.length_nil] at hR ⊢
        have F := Lib.hid hR
        clear hR hcv
        go_upto_region 9 with (fail)
        repeat (go_quiet (fail); try go_upto_region 10 with (fail))
        refine abs_m ?_
        intro w5 hw5
        have g5 : w5.heap[wr.heap.size]? = some (.cells #[.string f0, .string f1] 27 (0, 0)) := by rw [hw5]; exact heap_alloc_new wr _
        have b5 : Below wr.heap.size wr w5 := by rw [hw5]; first | exact pw_below_drewN ((Below.refl _ _).alloc (Nat.le_refl _) _) _ | exact ((Below.refl _ _).alloc (Nat.le_refl _) _).drew
        have t0 : w5.cell? ⟨wr.heap.size, 0, none⟩ = some (.string f0) := cell_of_row w5 _ 0 _ _ _ g5
        have t1 : w5.cell? ⟨wr.heap.size, 1, none⟩ = some (.string f1) := cell_of_row w5 _ 1 _ _ _ g5
        have R5 := Lib.hid (Kd.R_below F.out b5)
        have B5 := Lib.hid (HB.out.1.trans (b5.mono HB.out.2))
        have S5 := Lib.hid (Nat.le_trans HB.out.2 b5.size)
        clear hw5 b5 x0 x1
        go_wp2_with (first
          | (at_builtin; refine Kd.R_append k27 (w0 := w4) w4.heap.size rfl (.tmp 43) (.tmp 45) 35 27 (.agg #[.string ⟨#[]⟩, .string ⟨#[]⟩]) 32 rfl Tryd.underlying35 infoR rfl (by decide) (by decide) (.slice Av 0 cv) [] ⟨f0, f1⟩ [.string f0, .string f1] (fun _ => True) (fun _ => False) rfl rfl (k27_mkM _ _ _ ⟨f0, f1⟩) (fun _ h => h.elim) (fun _ _ => trivial) R5.out B5.out S5.out (by decide) ?_; intro v6 w6 hown6 hb6 hg6 hat6))
        refine ⟨⟨i + 1, by omega, by go_num, ?_, hb6⟩, by simp [intOf]; omega⟩
        rw [E.out.1]; exact hown6
      · rw [List.concat_eq_append] at hcc
        subst hcc
        obtain ⟨go, co, cur, rfl, hgo, hlt2, hco, hh, e0, e1, hset⟩ := last_row hR
        obtain ⟨k, hk⟩ : ∃ k, RowKit.Hid (k = o'.length) := ⟨_, Lib.hid rfl⟩
        rw [← hk.out] at e0 e1 hco hset hR ⊢
        have hkn : k < 4294967296 := by have h1 := E.out.2.1; have h2 := E.out.2.2; rw [List.length_append, ← hk.out] at h1; simp at h1; omega
        obtain ⟨m, hm2⟩ : ∃ m, RowKit.Hid (m = k + 1) := ⟨_, Lib.hid rfl⟩
        rw [← hm2.out] at hR hset hco ⊢
        obtain ⟨g0, g1⟩ := lst
        simp only at e0 e1
        have k0 : (0 : Int) ≤ (k : Int) := by omega
        have k1 : (k : Int) < (m : Int) := by have := hm2.out; omega
        have kw : IntKind.i64.wrap ((m : Int) - 1) = (k : Int) := by rw [show (m : Int) - 1 = (k : Int) by have := hm2.out; omega]; exact IntWalk.i64_in _ (by omega)
        have kw2 : wrap64 ((m : Int) - 1) = (k : Int) := by rw [show (m : Int) - 1 = (k : Int) by have := hm2.out; omega]; exact IntWalk.wrap64_in _ (by omega)
        have kn : decide ((k : Int) < 0) = false := decide_eq_false (by omega)
        have o0 : wr.cell? ⟨go, k * 2, none⟩ = some (.string g0) := (cell_of_row wr go (k * 2) _ _ _ hh).trans e0
        have o1 : wr.cell? ⟨go, k * 2 + 1, none⟩ = some (.string g1) := (cell_of_row wr go (k * 2 + 1) _ _ _ hh).trans e1
        have fo := frozen_of_row wr go (k * 2 + 1) _ _ hh
        have ha : (⟨go, 0, none⟩ : Addr).add (k * 2) = ⟨go, k * 2, none⟩ := by rw [Addr.add_lit, Nat.zero_add]
        have bw : ∀ q, Below wr.heap.size wr ((wr.alloc (.cells #[.string f0, .string f1] 27)).drewN q) := fun q => pw_below_drewN ((Below.refl _ _).alloc (Nat.le_refl _) _) q
        have F := Lib.hid (And.intro hR (And.intro hgo (And.intro hlt2 (And.intro hh hset))))
        have KN := Lib.hid hkn
        replace k0 := eq_true k0
        replace k1 := eq_true k1
        clear hR hgo hco hh e0 e1 hset hkn
        have hst := step_snoc o' ⟨g0, g1⟩ ⟨f0, f1⟩
        by_cases q1 : g1.toList = []
        · have q1a : (g1.toList == ([] : List UInt8)) = true := beq_iff_eq.mpr q1
          have q1b : (g1.toList != ([] : List UInt8)) = false := bne_eq_false_iff_eq.mpr q1
          rw [if_pos q1] at hst
          have ST := Lib.hid hst
          clear q1 hst
          go_upto_region 9 with (fail)
          repeat (go_quiet (fail); try go_wp2)
          refine ⟨⟨i + 1, by omega, by go_num, ?_, HB.out.1.trans ((bw _).mono HB.out.2)⟩, by simp [intOf]; omega⟩
          rw [E.out.1, ST.out]
          exact Kd.R_below F.out.1 (bw _)
        · have q1a : (g1.toList == ([] : List UInt8)) = false := beq_eq_false_iff_ne.mpr q1
          have q1b : (g1.toList != ([] : List UInt8)) = true := bne_iff_ne.mpr q1
          rw [if_neg q1] at hst
          clear q1
          by_cases q2 : lessB g1.toList f0.toList = true
          · have q2a : Op.bytesLess g1.toList f0.toList = true := q2
            rw [if_pos q2] at hst
            have ST := Lib.hid hst
            clear q2 hst
            go_upto_region 9 with (fail)
            repeat (go_quiet (fail); try go_upto_region 10 with (fail))
            refine abs_m ?_
            intro w5 hw5
            have g5 : w5.heap[wr.heap.size]? = some (.cells #[.string f0, .string f1] 27 (0, 0)) := by rw [hw5]; exact heap_alloc_new wr _
            have b5 : Below wr.heap.size wr w5 := by rw [hw5]; first | exact pw_below_drewN ((Below.refl _ _).alloc (Nat.le_refl _) _) _ | exact ((Below.refl _ _).alloc (Nat.le_refl _) _).drew
            have t0 : w5.cell? ⟨wr.heap.size, 0, none⟩ = some (.string f0) := cell_of_row w5 _ 0 _ _ _ g5
            have t1 : w5.cell? ⟨wr.heap.size, 1, none⟩ = some (.string f1) := cell_of_row w5 _ 1 _ _ _ g5
            have R5 := Lib.hid (Kd.R_below F.out.1 b5)
            have B5 := Lib.hid (HB.out.1.trans (b5.mono HB.out.2))
            have S5 := Lib.hid (Nat.le_trans HB.out.2 b5.size)
            clear hw5 b5 x0 x1 o0 o1 fo
            go_wp2_with (first
              | (at_builtin; refine Kd.R_append k27 (w0 := w4) w4.heap.size rfl (.tmp 43) (.tmp 45) 35 27 (.agg #[.string ⟨#[]⟩, .string ⟨#[]⟩]) 32 rfl Tryd.underlying35 infoR rfl (by decide) (by decide) (.slice (some ⟨go, 0, none⟩) m co) (o' ++ [⟨g0, g1⟩]) ⟨f0, f1⟩ [.string f0, .string f1] (fun _ => True) (fun _ => False) rfl rfl (k27_mkM _ _ _ ⟨f0, f1⟩) (fun _ h => h.elim) (fun _ _ => trivial) R5.out B5.out S5.out (by have h1 := E.out.2.1; have h2 := E.out.2.2; omega) ?_; intro v6 w6 hown6 hb6 hg6 hat6))
            refine ⟨⟨i + 1, by omega, by go_num, ?_, hb6⟩, by simp [intOf]; omega⟩
            rw [E.out.1, ST.out]; exact hown6
          · have q2a : Op.bytesLess g1.toList f0.toList = false := by simpa using q2
            rw [if_neg q2] at hst
            clear q2
            by_cases q3 : f1.toList = []
            · have q3a : (f1.toList == ([] : List UInt8)) = true := beq_iff_eq.mpr q3
              rw [if_pos q3] at hst
              have ST := Lib.hid hst
              clear q3 hst
              go_upto_region 9 with (fail)
              repeat (go_quiet (fail); try go_wp2)
              refine ⟨⟨i + 1, by omega, by go_num, ?_, (HB.out.1.trans ((bw _).mono HB.out.2)).setCell F.out.2.1 _⟩, by simp [intOf]; omega⟩
              rw [E.out.1, ST.out]
              exact F.out.2.2.2.2 _ f1 (heap_setCell_same _ go _ _ 27 _ (((bw _).block go F.out.2.2.1).trans F.out.2.2.2.1))
            · have q3a : (f1.toList == ([] : List UInt8)) = false := beq_eq_false_iff_ne.mpr q3
              rw [if_neg q3] at hst
              clear q3
              by_cases q4 : lessB g1.toList f1.toList = true
              · have q4a : Op.bytesLess g1.toList f1.toList = true := q4
                rw [if_pos q4] at hst
                have ST := Lib.hid hst
                clear q4 hst
                go_upto_region 9 with (fail)
                repeat (go_quiet (fail); try go_wp2)
                refine ⟨⟨i + 1, by omega, by go_num, ?_, (HB.out.1.trans ((bw _).mono HB.out.2)).setCell F.out.2.1 _⟩, by simp [intOf]; omega⟩
                rw [E.out.1, ST.out]
                exact F.out.2.2.2.2 _ f1 (heap_setCell_same _ go _ _ 27 _ (((bw _).block go F.out.2.2.1).trans F.out.2.2.2.1))
              · have q4a : Op.bytesLess g1.toList f1.toList = false := by simpa using q4
                rw [if_neg q4] at hst
                have ST := Lib.hid hst
                clear q4 hst
                go_upto_region 9 with (fail)
                repeat (go_quiet (fail); try go_wp2)
                refine ⟨⟨i + 1, by omega, by go_num, ?_, HB.out.1.trans ((bw _).mono HB.out.2)⟩, by simp [intOf]; omega⟩
                rw [E.out.1, ST.out]
                exact Kd.R_below F.out.1 (bw _)
    · obtain rfl : i = n := by omega
      have hlt' : ¬ ((i : Int) < (i : Int)) := by omega
      have hfull : d.take i = d := List.take_of_length_le (by rw [HN.out.2]; exact Nat.le_refl _)
      rw [hfull] at hR
      have F := Lib.hid (And.intro hR hb)
      clear hR hb hfull
      go_wp2
      go_ret
      exact ⟨_, rfl, Kd.R_lower F.out.1 G.out.2.size, G.out.2.trans (F.out.2.mono G.out.2.size)⟩

/-! #### deletion -/
def emptyR (x : S27) : Bool := if x.f1.toList = [] then false else !(Op.bytesLess x.f0.toList x.f1.toList)
theorem empty_emptyR (x : S27) : span_Empty.f x.f0 x.f1 = some (emptyR x) := by
  unfold span_Empty.f emptyR
  split <;> rfl
/-- A block's ranges. -/
def Own (w : World) (g c : Nat) (L : List S27) : Prop := ∃ cur, w.heap[g]? = some (.cells cur 27 (0, 0)) ∧ cur.size = c * 2 ∧ ∀ j p, L[j]? = some p → cur[j * 2]? = some (.string p.f0) ∧ cur[j * 2 + 1]? = some (.string p.f1)
theorem Own.lt {w : World} {g c : Nat} {L : List S27} (h : Own w g c L) : g < w.heap.size := by
  obtain ⟨cur, hh, -⟩ := h
  rcases Nat.lt_or_ge g w.heap.size with h | h
  · exact h
  · rw [Array.getElem?_eq_none h] at hh; cases hh
theorem Own.below {w w' : World} {g c : Nat} {L : List S27} (h : Own w g c L) (hb : Below w.heap.size w w') : Own w' g c L := by
  have hl := h.lt
  obtain ⟨cur, hh, h2⟩ := h
  exact ⟨cur, (hb.block g hl).trans hh, h2⟩
theorem Own.cell {w : World} {g c : Nat} {L : List S27} (h : Own w g c L) {j : Nat} (hj : j < L.length) : w.cell? ⟨g, j * 2, none⟩ = some (.string (rd_T27 L (j : Int)).f0) ∧ w.cell? ⟨g, j * 2 + 1, none⟩ = some (.string (rd_T27 L (j : Int)).f1) := by
  obtain ⟨cur, hh, -, h2⟩ := h
  have e : rd_T27 L (j : Int) = L[j] := by unfold rd_T27; simp [List.getD, List.getElem?_eq_getElem hj]
  have h3 := h2 j L[j] (List.getElem?_eq_getElem hj)
  rw [e]
  exact ⟨(cell_of_row w g _ _ _ _ hh).trans h3.1, (cell_of_row w g _ _ _ _ hh).trans h3.2⟩
theorem Own.frozen {w : World} {g c : Nat} {L : List S27} (h : Own w g c L) (j : Nat) : w.frozen? ⟨g, j, none⟩ = false := by
  obtain ⟨cur, hh, -⟩ := h
  exact frozen_of_row w g j _ _ hh
theorem Own.some_ {w : World} {g c : Nat} {L : List S27} (h : Own w g c L) (j : Nat) (hj : j < c * 2) : (w.cell? ⟨g, j, none⟩).isSome = true := by
  obtain ⟨cur, hh, hs, -⟩ := h
  rw [cell_of_row w g j _ _ _ hh]
  simp [hs, hj]
theorem Own.put {w : World} {g c : Nat} {L : List S27} (h : Own w g c L) (k : Nat) (hk : k < L.length) (hc : L.length ≤ c) (r : S27) : Own ((w.setCell ⟨g, k * 2, none⟩ (.string r.f0)).setCell ⟨g, k * 2 + 1, none⟩ (.string r.f1)) g c (L.set k r) := by
  obtain ⟨cur, hh, hs, h2⟩ := h
  refine ⟨_, heap_setCell_same _ g (k * 2 + 1) _ 27 _ (heap_setCell_same w g (k * 2) _ 27 _ hh), by simp [hs], fun j p hj => ?_⟩
  rw [List.getElem?_set] at hj
  by_cases e : k = j
  · subst e
    rw [if_pos rfl, if_pos hk] at hj
    injection hj with hj
    subst hj
    constructor
    · rw [Array.getElem?_setIfInBounds_ne (by omega), Array.getElem?_setIfInBounds_self_of_lt (by omega)]
    · rw [Array.getElem?_setIfInBounds_self_of_lt (by rw [Array.size_setIfInBounds]; omega)]
  · rw [if_neg e] at hj
    have h3 := h2 j p hj
    constructor
    · rw [Array.getElem?_setIfInBounds_ne (by omega), Array.getElem?_setIfInBounds_ne (by omega)]; exact h3.1
    · rw [Array.getElem?_setIfInBounds_ne (by omega), Array.getElem?_setIfInBounds_ne (by omega)]; exact h3.2
theorem Own.cells {g c : Nat} {L : List S27} (k : Nat) : ∀ (zs : List Value) (o : Nat) (w : World), k * 2 ≤ o → Own w g c (L.take k) → Own (w.setCells g o zs) g c (L.take k)
  | [], _, _, _, h => h
  | z :: zs, o, w, ho, h => by
    rw [World.setCells]
    refine Own.cells k zs (o + 1) _ (by omega) ?_
    obtain ⟨cur, hh, hs, h2⟩ := h
    refine ⟨_, heap_setCell_same w g o _ 27 _ hh, by simp [hs], fun j p hj => ?_⟩
    have hjk : j < k := by
      rw [List.getElem?_take] at hj
      split at hj
      · assumption
      · cases hj
    have h3 := h2 j p hj
    exact ⟨by rw [Array.getElem?_setIfInBounds_ne (by omega)]; exact h3.1, by rw [Array.getElem?_setIfInBounds_ne (by omega)]; exact h3.2⟩
theorem Own.take {w : World} {g c : Nat} {L : List S27} (h : Own w g c L) (k : Nat) : Own w g c (L.take k) := by
  obtain ⟨cur, hh, hs, h2⟩ := h
  refine ⟨cur, hh, hs, fun j p hj => ?_⟩
  rw [List.getElem?_take] at hj
  split at hj
  · exact h2 j p hj
  · cases hj
theorem below_setCells {base g : Nat} (hg : base ≤ g) : ∀ (zs : List Value) (o : Nat) (w w0 : World), Below base w0 w → Below base w0 (w.setCells g o zs)
  | [], _, _, _, h => h
  | z :: zs, o, w, w0, h => by
    rw [World.setCells]
    exact below_setCells hg zs (o + 1) _ w0 (h.setCell hg _)
theorem own_of_R {w : World} {base : Nat} {v : Value} {l : List S27} (h : Kd.R k27 27 w base (fun _ => True) v l) (h0 : l.length ≠ 0) : ∃ g c, v = .slice (some ⟨g, 0, none⟩) l.length c ∧ base ≤ g ∧ l.length ≤ c ∧ c ≤ maxLen ∧ Own w g c l := by
  obtain ⟨-, inner, ho, hreps⟩ := h
  rcases ho.2 with ⟨-, h⟩ | ⟨g, cap, cur, hv, hg, hh, h1, h2, h3, ht⟩
  · exact absurd h h0
  · have hs2 : k27.sz = 2 := rfl
    rw [hs2] at ht h3
    refine ⟨g, cap, hv, hg, h1, h2, cur, hh, h3, fun j p hj => ?_⟩
    have hjl : j < l.length := by
      rcases Nat.lt_or_ge j l.length with h | h
      · exact h
      · rw [List.getElem?_eq_none h] at hj; cases hj
    have hK := k27_openM (hreps.2 j p hj)
    rw [hs2] at hK
    have e : ∀ q, q < 2 → cur[j * 2 + q]? = ([.string p.f0, .string p.f1] : List Value)[q]? := by
      intro q hq
      rw [← hK, List.getElem?_take, if_pos hq, List.getElem?_drop, ← ht, List.getElem?_take, if_pos (by omega)]; simp
    exact ⟨e 0 (by omega), e 1 (by omega)⟩
theorem R_of_own {w : World} {base g c : Nat} {L : List S27} (h : Own w g c L) (hg : base ≤ g) (hc : L.length ≤ c) (hm : c ≤ maxLen) : Kd.R k27 27 w base (fun _ => True) (.slice (some ⟨g, 0, none⟩) L.length c) L := by
  obtain ⟨cur, hh, hs, h2⟩ := h
  have hs2 : k27.sz = 2 := rfl
  have hlen : (cur.toList.take (L.length * 2)).length = L.length * 2 := by rw [List.length_take, show cur.toList.length = c * 2 from by rw [Array.length_toList]; exact hs]; omega
  refine ⟨fun _ _ => trivial, cur.toList.take (L.length * 2), ⟨hlen, .inr ⟨g, c, cur, rfl, hg, hh, hc, hm, hs, rfl⟩⟩, ⟨hlen, fun j p hj => ?_⟩⟩
  have hjl : j < L.length := by
    rcases Nat.lt_or_ge j L.length with h | h
    · exact h
    · rw [List.getElem?_eq_none h] at hj; cases hj
  have h3 := h2 j p hj
  have e : (((cur.toList.take (L.length * 2)).drop (j * k27.sz)).take k27.sz) = [.string p.f0, .string p.f1] := by
    rw [hs2]
    apply List.ext_getElem?
    intro q
    rw [List.getElem?_take]
    split
    · rename_i hq
      rw [List.getElem?_drop, List.getElem?_take, if_pos (by omega), Array.getElem?_toList]
      match q, hq with
      | 0, _ => exact h3.1
      | 1, _ => exact h3.2
    · rw [List.getElem?_eq_none (by simp; omega)]
  rw [e]
  exact k27_mkM _ _ _ p
theorem clear_run (w : World) (g k n c c' : Nat) (L : List S27) (ty : TypeId) (h : Own w g c L) (hk : k < n) (hn : n ≤ c) :
    (Builtin.clear_ #[35] ty #[.slice (some ⟨g, k * 2, none⟩) (n - k) c']).run Tryd.prog w = .ok (.tuple #[]) (w.setCells g (k * 2) (Builtin.zeroCells (Value.agg #[.string ⟨#[]⟩, .string ⟨#[]⟩]).cells (n - k)).toList) := by
  have hz : ∀ w, (zeroValue 27).run Tryd.prog w = .ok (.agg #[.string ⟨#[]⟩, .string ⟨#[]⟩]) w := Tryd.zeroValue27
  have hlen : (Builtin.zeroCells (Value.agg #[.string ⟨#[]⟩, .string ⟨#[]⟩]).cells (n - k)).toList.length = (n - k) * 2 := by simp [Builtin.zeroCells, Value.cells]; first | done | omega
  have hone : ∀ v ∈ (Builtin.zeroCells (Value.agg #[.string ⟨#[]⟩, .string ⟨#[]⟩]).cells (n - k)).toList, v.oneCell' = true := by
    intro v hv
    simp [Builtin.zeroCells, Value.cells] at hv
    obtain ⟨i, hi, rfl⟩ := hv
    rcases Nat.mod_two_eq_zero_or_one i with e | e <;> simp [e] <;> rfl
  have hst := run_storeCells_cells (P := Tryd.prog) g (k * 2) _ 0 w (by intro j hj; rw [hlen] at hj; exact h.some_ _ (by omega)) (by intro j hj; exact h.frozen _) hone
  simp only [Nat.add_zero] at hst
  obtain ⟨m, hm⟩ : ∃ m, n - k = m + 1 := ⟨n - k - 1, by omega⟩
  rw [hm] at hst ⊢
  simp [Builtin.clear_, run_underlying Tryd.underlying35, hz, hst]
theorem empX (x : S27) (b : Bool) (h : span_Empty.f x.f0 x.f1 = some b) (W : World) : Calls Tryd.prog 52 #[.agg #[.string x.f0, .string x.f1]] W fun e w' => e = .returned (.bool b) ∧ Below W.heap.size W w' := span_Empty.calls x.f0 x.f1 b W h
set_option maxRecDepth 100000 in
theorem index_any (w : World) (g c : Nat) (l : List S27) (hO : Own w g c l) (hc : l.length ≤ c) (hn : l.length ≤ 4294967296) :
    Calls Tryd.prog 70 #[.slice (some ⟨g, 0, none⟩) l.length c, .func (.func 52) #[] #[]] w fun e w' => Below w.heap.size w w' ∧ ((e = .returned (.int .i64 (-1)) ∧ ∀ j : Nat, j < l.length → emptyR (rd_T27 l (j : Int)) = false) ∨ ∃ i : Nat, i < l.length ∧ e = .returned (.int .i64 i) ∧ emptyR (rd_T27 l (i : Int)) = true ∧ ∀ j : Nat, j < i → emptyR (rd_T27 l (j : Int)) = false) := by
  have O := Lib.hid hO
  clear hO
  obtain ⟨n, hN⟩ : ∃ n, RowKit.Hid (n = l.length) := ⟨_, Lib.hid rfl⟩
  rw [← hN.out] at hc hn ⊢
  go_enter Tryd.func70, Tryd.ntmps70
  go_upto_region 2 with (fail)
  go_loopw [8] (fun v wr => ∃ i : Nat, i ≤ n ∧ v = .int .i64 i ∧ (∀ j : Nat, j < i → emptyR (rd_T27 l (j : Int)) = false) ∧ Below w.heap.size w wr) (fun v _ => n - (intOf v).toNat)
  case atStart => exact ⟨0, by omega, rfl, fun j hj => by omega, Below.refl _ _⟩
  case round =>
    obtain ⟨i, hi, rfl, hall, hb⟩ := hrel
    have hz := hb.size
    by_cases hlt : i < n
    · have l16 : (0 : Int) ≤ (i : Int) := by omega
      have u16 : (i : Int) < (n : Int) := by omega
      have hi3 : i < l.length := by rw [← hN.out]; exact hlt
      obtain ⟨o0, o1⟩ := (O.out.below hb).cell hi3
      have ha : (⟨g, 0, none⟩ : Addr).add (i * 2) = ⟨g, i * 2, none⟩ := by rw [Addr.add_lit, Nat.zero_add]
      have he := empty_emptyR (rd_T27 l (i : Int))
      obtain ⟨r, hrr⟩ : ∃ r, RowKit.Hid (r = rd_T27 l (i : Int)) := ⟨_, Lib.hid rfl⟩
      rw [← hrr.out] at o0 o1 he
      obtain ⟨b, hbe⟩ : ∃ b, RowKit.Hid (b = emptyR r) := ⟨_, Lib.hid rfl⟩
      rw [← hbe.out] at he
      have hE := Lib.hid he
      replace l16 := eq_true l16
      replace u16 := eq_true u16
      have HB := Lib.hid (And.intro hb hall)
      clear he hb hi3 hall
      cases b with
      | false =>
        go_wp2_with (first
          | (go_at_call 52; refine (empX r false hE.out _).mono ?_; rintro e w2 ⟨rfl, hb2⟩))
        refine ⟨⟨i + 1, by omega, by go_num, fun j hj => ?_, HB.out.1.trans (hb2.mono hz)⟩, by simp [intOf]; omega⟩
        by_cases e : j = i
        · subst e; rw [← hrr.out, ← hbe.out]
        · exact HB.out.2 j (by omega)
      | true =>
        go_wp2_with (first
          | (go_at_call 52; refine (empX r true hE.out _).mono ?_; rintro e w2 ⟨rfl, hb2⟩))
        go_ret
        exact ⟨HB.out.1.trans (hb2.mono hz), .inr ⟨i, hlt, rfl, by rw [← hrr.out, ← hbe.out], HB.out.2⟩⟩
    · obtain rfl : i = n := by omega
      have hlt' : ¬ ((i : Int) < (i : Int)) := by omega
      go_wp2
      go_ret
      exact ⟨hb, .inl ⟨rfl, hall⟩⟩
def full (x : S27) : Bool := !emptyR x
def Inv (l L : List S27) (k j : Nat) : Prop := L.length = l.length ∧ k < j ∧ j ≤ l.length ∧ L.take k = (l.take j).filter full ∧ L.drop j = l.drop j
theorem Inv.get {l L : List S27} {k j : Nat} (h : Inv l L k j) (hj : j < l.length) : rd_T27 L (j : Int) = l[j] := by
  have h1 := h.1
  have e : L[j]? = l[j]? := by
    have h2 := congrArg (fun x => x[0]?) h.2.2.2.2
    simpa using h2
  unfold rd_T27
  rw [Int.toNat_natCast, List.getD, e, List.getElem?_eq_getElem hj]
  rfl
theorem Inv.skip {l L : List S27} {k j : Nat} (h : Inv l L k j) (hj : j < l.length) (he : emptyR l[j] = true) : Inv l L k (j + 1) := by
  obtain ⟨h1, h2, h3, h4, h5⟩ := h
  refine ⟨h1, by omega, by omega, ?_, ?_⟩
  · rw [h4, List.take_add_one, List.getElem?_eq_getElem hj, List.filter_append]
    simp [full, he]
  · rw [← List.drop_drop, ← List.drop_drop, h5]
theorem Inv.keep {l L : List S27} {k j : Nat} (h : Inv l L k j) (hj : j < l.length) (he : emptyR l[j] = false) : Inv l (L.set k l[j]) (k + 1) (j + 1) := by
  obtain ⟨h1, h2, h3, h4, h5⟩ := h
  refine ⟨by rw [List.length_set]; exact h1, by omega, by omega, ?_, ?_⟩
  · rw [List.take_add_one, List.take_set_of_le (Nat.le_refl _), h4, List.getElem?_set_self (by omega), List.take_add_one (i := j), List.getElem?_eq_getElem hj, List.filter_append]
    simp [full, he]
  · rw [List.drop_set_of_lt (by omega), ← List.drop_drop, ← List.drop_drop, h5]
theorem Inv.start {l : List S27} {i : Nat} (hi : i < l.length) (he : emptyR (rd_T27 l (i : Int)) = true) (hall : ∀ j : Nat, j < i → emptyR (rd_T27 l (j : Int)) = false) : Inv l l i (i + 1) := by
  have e : ∀ (j : Nat) (hj : j < l.length), rd_T27 l (j : Int) = l[j] := fun j hj => by unfold rd_T27; simp [List.getD, List.getElem?_eq_getElem hj]
  rw [e i hi] at he
  have h1 : (l.take i).filter full = l.take i := by
    rw [List.filter_eq_self]
    intro x hx
    obtain ⟨j, hj, rfl⟩ := List.mem_iff_getElem.1 hx
    rw [List.length_take] at hj
    have h2 := hall j (by omega)
    rw [e j (by omega)] at h2
    rw [List.getElem_take]
    simp [full, h2]
  refine ⟨rfl, by omega, by omega, ?_, rfl⟩
  rw [List.take_add_one, List.getElem?_eq_getElem hi, List.filter_append, h1]
  simp [full, he]
theorem filter_all {l : List S27} (hall : ∀ j : Nat, j < l.length → emptyR (rd_T27 l (j : Int)) = false) : l.filter full = l := by
  rw [List.filter_eq_self]
  intro x hx
  obtain ⟨j, hj, rfl⟩ := List.mem_iff_getElem.1 hx
  have h2 := hall j hj
  have e : rd_T27 l (j : Int) = l[j] := by unfold rd_T27; simp [List.getD, List.getElem?_eq_getElem hj]
  rw [e] at h2
  simp [full, h2]
theorem abs_d {P : Program} {c : Code} {Q : Exit → Act → World → Prop} {a : Act} {w : World} (h : ∀ w', w' = w → Code.wp P c Q a w') : Code.wp P c Q a w := h w rfl
set_option maxRecDepth 100000 in
set_option maxHeartbeats 8000000 in
theorem delete_any (w : World) (base g c : Nat) (l : List S27) (hO : Own w g c l) (hg : base ≤ g) (hc : l.length ≤ c) (hm : c ≤ maxLen) (hbw : base ≤ w.heap.size) (hn : l.length ≤ 4294967296) :
    Calls Tryd.prog 51 #[.slice (some ⟨g, 0, none⟩) l.length c, .func (.func 52) #[] #[]] w fun e w' => e = .returned (.slice (some ⟨g, 0, none⟩) (l.filter full).length c) ∧ Own w' g c (l.filter full) ∧ Below base w w' := by
  have hi := index_any w g c l hO hc hn
  obtain ⟨n, hN⟩ : ∃ n, RowKit.Hid (n = l.length) := ⟨_, Lib.hid rfl⟩
  have O := Lib.hid (And.intro hO (And.intro hg (And.intro hbw hm)))
  have hm2 : c ≤ 9223372036854775807 := hm
  clear hO hg hbw hm
  obtain ⟨fl, hfl⟩ : ∃ fl, RowKit.Hid (fl = l.filter full) := ⟨_, Lib.hid rfl⟩
  rw [← hfl.out]
  rw [← hN.out] at hi hc hn ⊢
  go_enter Tryd.func51, Tryd.ntmps51
  go_upto_region 2 with (first
    | (go_at_call 70; refine hi.mono ?_; rintro e w2 ⟨hb2, ⟨rfl, hall⟩ | ⟨i, hin, rfl, hie, hall⟩⟩))
  · have e : fl = l := by rw [hfl.out]; exact filter_all (by rw [← hN.out]; exact hall)
    have H := Lib.hid (And.intro e hb2)
    clear hall hb2 hi
    go_wp2
    go_ret
    rw [H.out.1]
    exact ⟨by rw [hN.out]; rfl, O.out.1.below H.out.2, H.out.2.mono O.out.2.2.1⟩
  · have I := Lib.hid (Inv.start (by rw [← hN.out]; exact hin) hie hall)
    have O2 := Lib.hid (And.intro (O.out.1.below hb2) (hb2.mono O.out.2.2.1))
    have hne : decide ((i : Int) = -1) = false := decide_eq_false (by omega)
    have hne2 : ¬ ((i : Int) = -1) := by omega
    have hiw : IntKind.i64.wrap ((i : Int) + 1) = ((i + 1 : Nat) : Int) := by rw [IntWalk.i64_in _ (by omega)]; omega
    have hiw2 : wrap64 ((i : Int) + 1) = ((i + 1 : Nat) : Int) := by rw [IntWalk.wrap64_in _ (by omega)]; omega
    clear hall hie hi hb2
    go_upto_region 5 with (fail)
    go_loopw [5, 6] (fun kv jv wr => ∃ (k j : Nat) (L : List S27), kv = .int .i64 k ∧ jv = .int .i64 j ∧ Inv l L k j ∧ Own wr g c L ∧ Below base w2 wr) (fun _ jv _ => n - (intOf jv).toNat)
    case atStart => exact ⟨i, i + 1, l, rfl, rfl, I.out, O2.out.1, Below.refl _ _⟩
    case round =>
      obtain ⟨k, j, L, rfl, rfl, hI, hO, hb⟩ := hrel
      have hjn : j ≤ n := by rw [hN.out]; exact hI.2.2.1
      have hkj : k < j := hI.2.1
      by_cases hlt : j < n
      · have hj3 : j < l.length := by rw [← hN.out]; exact hlt
        have l16 : (0 : Int) ≤ (j : Int) := by omega
        have u16 : (j : Int) < (n : Int) := by omega
        have l17 : (0 : Int) ≤ (k : Int) := by omega
        have u17 : (k : Int) < (n : Int) := by omega
        obtain ⟨o0, o1⟩ := hO.cell (show j < L.length by rw [hI.1]; exact hj3)
        have ha : (⟨g, 0, none⟩ : Addr).add (j * 2) = ⟨g, j * 2, none⟩ := by rw [Addr.add_lit, Nat.zero_add]
        have hak : (⟨g, 0, none⟩ : Addr).add (k * 2) = ⟨g, k * 2, none⟩ := by rw [Addr.add_lit, Nat.zero_add]
        rw [hI.get hj3] at o0 o1
        obtain ⟨r, hrr⟩ : ∃ r, RowKit.Hid (r = l[j]) := ⟨_, Lib.hid rfl⟩
        rw [← hrr.out] at o0 o1
        have he := empty_emptyR r
        obtain ⟨b, hbe⟩ : ∃ b, RowKit.Hid (b = emptyR r) := ⟨_, Lib.hid rfl⟩
        rw [← hbe.out] at he
        have hgw := hO.lt
        have H := Lib.hid (And.intro hI (And.intro hO (And.intro hb (And.intro he (And.intro hj3 hgw)))))
        have hjw : IntKind.i64.wrap ((j : Int) + 1) = ((j + 1 : Nat) : Int) := by rw [IntWalk.i64_in _ (by omega)]; omega
        have hkw : IntKind.i64.wrap ((k : Int) + 1) = ((k + 1 : Nat) : Int) := by rw [IntWalk.i64_in _ (by omega)]; omega
        replace l16 := eq_true l16
        replace u16 := eq_true u16
        replace l17 := eq_true l17
        replace u17 := eq_true u17
        clear hI hO hb he hgw
        obtain ⟨f0, f1⟩ := r
        simp only at o0 o1
        go_upto_region 8 with (fail)
        refine abs_d ?_
        intro w5 hw5
        have g5 : w5.heap[wr.heap.size]? = some (.cells #[.string f0, .string f1] 27 (0, 0)) := by rw [hw5]; exact heap_alloc_new wr _
        have b5 : Below wr.heap.size wr w5 := by rw [hw5]; first | exact pw_below_drewN ((Below.refl _ _).alloc (Nat.le_refl _) _) _ | exact ((Below.refl _ _).alloc (Nat.le_refl _) _).drew | exact (Below.refl _ _).alloc (Nat.le_refl _) _
        have t0 : w5.cell? ⟨wr.heap.size, 0, none⟩ = some (.string f0) := cell_of_row w5 _ 0 _ _ _ g5
        have t1 : w5.cell? ⟨wr.heap.size, 1, none⟩ = some (.string f1) := cell_of_row w5 _ 1 _ _ _ g5
        have O5 := Lib.hid (H.out.2.1.below b5)
        have hwr5 : wr.heap.size < w5.heap.size := by rcases Nat.lt_or_ge wr.heap.size w5.heap.size with h | h; exact h; rw [Array.getElem?_eq_none h] at g5; cases g5
        have B5 := Lib.hid (H.out.2.2.1.trans (b5.mono (Nat.le_trans O.out.2.2.1 (Nat.le_trans (Below.size (O2.out.2)) (Below.size H.out.2.2.1)))))
        have S5 := Lib.hid hwr5
        have T5 := Lib.hid (And.intro t0 t1)
        clear hw5 b5 g5 o0 o1 hwr5
        cases b with
        | true =>
          go_wp2_with (first
            | (go_at_call 52; refine (empX ⟨f0, f1⟩ true H.out.2.2.2.1 _).mono ?_; rintro e w6 ⟨rfl, hb6⟩))
          refine ⟨⟨_, _, _, _, _, _, _, _, _, _, _, _, _, _, _, _, _, _, _, _, _, _, _, ?_, rfl⟩, by simp [intOf]; omega⟩
          refine ⟨k, j + 1, L, rfl, by go_num, H.out.1.skip H.out.2.2.2.2.1 (by rw [← hrr.out, ← hbe.out]), O5.out.below hb6, B5.out.trans (hb6.mono (Nat.le_trans O.out.2.2.1 (Nat.le_trans (Below.size (O2.out.2)) (Below.size B5.out))))⟩
        | false =>
          go_upto_region 9 with (first
            | (go_at_call 52; refine (empX ⟨f0, f1⟩ false H.out.2.2.2.1 _).mono ?_; rintro e w6 ⟨rfl, hb6⟩))
          clear t0 t1
          have t0 : w6.cell? ⟨wr.heap.size, 0, none⟩ = some (.string f0) := (hb6.cell (show wr.heap.size < w5.heap.size from S5.out)).trans T5.out.1
          have t1 : w6.cell? ⟨wr.heap.size, 1, none⟩ = some (.string f1) := (hb6.cell (show wr.heap.size < w5.heap.size from S5.out)).trans T5.out.2
          have O6 := Lib.hid (O5.out.below hb6)
          have B6 := Lib.hid (B5.out.trans (hb6.mono (Nat.le_trans O.out.2.2.1 (Nat.le_trans (Below.size (O2.out.2)) (Below.size B5.out)))))
          obtain ⟨p0, p1⟩ := O6.out.cell (show k < L.length by have := H.out.1.1; have := H.out.2.2.2.2.1; omega)
          have z0 := O6.out.frozen (k * 2)
          have z1 := O6.out.frozen (k * 2 + 1)
          clear hb6
          go_wp2
          refine ⟨⟨_, _, _, _, _, _, _, _, _, _, _, _, _, _, _, _, _, _, _, _, _, _, _, ?_, rfl⟩, by simp [intOf]; omega⟩
          refine ⟨k + 1, j + 1, L.set k ⟨f0, f1⟩, by go_num, by go_num, ?_, ?_, ?_⟩
          · rw [hrr.out]; exact H.out.1.keep H.out.2.2.2.2.1 (by rw [← hrr.out, ← hbe.out])
          · exact O6.out.put k (by have := H.out.1.1; have := H.out.2.2.2.2.1; omega) (by rw [H.out.1.1, ← hN.out]; exact hc) ⟨f0, f1⟩
          · exact (B6.out.setCell O.out.2.1 _).setCell O.out.2.1 _
      · obtain rfl : j = n := by omega
        have hlt' : ¬ ((j : Int) < (j : Int)) := by omega
        have hfk : fl = L.take k := by
          rw [hfl.out, hI.2.2.2.1, hN.out, List.take_length]
        have hkl : (L.take k).length = k := by rw [List.length_take, hI.1, ← hN.out]; omega
        have hcl := fun ty => clear_run wr g k j c (c - k) L ty hO hkj hc
        have l17 : (0 : Int) ≤ (k : Int) := by omega
        have u17 : (k : Int) ≤ (j : Int) := by omega
        have u18 : (k : Int) ≤ (c : Int) := by omega
        have H := Lib.hid (And.intro hI (And.intro hO (And.intro hb (And.intro hfk hkl))))
        clear hI hO hb hfk hkl
        obtain ⟨zs, hzs⟩ : ∃ zs, RowKit.Hid (zs = (Builtin.zeroCells (Value.agg #[.string ⟨#[]⟩, .string ⟨#[]⟩]).cells (j - k)).toList) := ⟨_, Lib.hid rfl⟩
        rw [← hzs.out] at hcl
        have hak : (⟨g, 0, none⟩ : Addr).add (k * 2) = ⟨g, k * 2, none⟩ := by rw [Addr.add_lit, Nat.zero_add]
        go_wp2
        go_ret
        rw [H.out.2.2.2.1]
        refine ⟨by rw [H.out.2.2.2.2]; rfl, Own.cells k _ _ _ (Nat.le_refl _) (H.out.2.1.take k), ?_⟩
        exact below_setCells O.out.2.1 _ _ _ _ (O2.out.2.trans H.out.2.2.1)
theorem delete_row (w : World) (base : Nat) (v : Value) (l : List S27) (hR : Kd.R k27 27 w base (fun _ => True) v l) (hbw : base ≤ w.heap.size) (hn : l.length ≤ 4294967296) :
    Calls Tryd.prog 51 #[v, .func (.func 52) #[] #[]] w fun e w' => ∃ v2, e = .returned v2 ∧ Kd.R k27 27 w' base (fun _ => True) v2 (l.filter full) ∧ Below base w w' := by
  by_cases h0 : l.length = 0
  · have hl : l = [] := List.eq_nil_of_length_eq_zero h0
    subst hl
    obtain ⟨A, c, rfl, hc, hC⟩ := Kd.R_reads hR
    refine (delete_gen w A c [] hC hc (fun x h => by cases h)).mono ?_
    rintro e w' ⟨rfl, hb⟩
    exact ⟨_, rfl, Kd.R_below hR hb, hb.mono hbw⟩
  · obtain ⟨g, c, rfl, hg, hc, hm, hO⟩ := own_of_R hR h0
    refine (delete_any w base g c l hO hg hc hm hbw hn).mono ?_
    rintro e w' ⟨rfl, hO', hb⟩
    exact ⟨_, rfl, R_of_own hO' hg (Nat.le_trans (List.length_filter_le _ _) hc) hm, hb⟩
set_option maxRecDepth 100000 in
set_option maxHeartbeats 16000000 in
theorem merged_any (w : World) (A : Option Addr) (c : Nat) (l0 : List S27) (hr : Kd.C k27 w A l0.length l0) (hc : l0.length ≤ c) (hn0 : l0.length ≤ 4294967296) :
    Calls Tryd.prog 38 #[.slice A l0.length c] w fun e w' => ∃ v0, e = .returned v0 ∧ Kd.R k27 27 w' w.heap.size (fun _ => True) v0 ((sortR (l0.filter full)).foldl stepR []) ∧ Below w.heap.size w w' := by
  have hclone := clone_gen w A c l0 hr hc hn0
  obtain ⟨l, hlf⟩ : ∃ l, RowKit.Hid (l = l0.filter full) := ⟨_, Lib.hid rfl⟩
  have hn : l.length ≤ 4294967296 := by rw [hlf.out]; exact Nat.le_trans (List.length_filter_le _ _) hn0
  have hdel : ∀ W v1, Kd.R k27 27 W w.heap.size (fun _ => True) v1 l0 → w.heap.size ≤ W.heap.size → Calls Tryd.prog 51 #[v1, .func (.func 52) #[] #[]] W fun e w' => ∃ A2 c2, e = .returned (.slice A2 l.length c2) ∧ l.length ≤ c2 ∧ Kd.R k27 27 w' w.heap.size (fun _ => True) (.slice A2 l.length c2) l ∧ Below w.heap.size W w' := by
    intro W v1 h1 h2
    refine (delete_row W w.heap.size v1 l0 h1 h2 hn0).mono ?_
    rintro e w' ⟨v2, rfl, h3, h4⟩
    rw [← hlf.out] at h3
    obtain ⟨A2, c2, rfl, h5, -⟩ := Kd.R_reads h3
    exact ⟨A2, c2, rfl, h5, h3, h4⟩
  have hsort : ∀ W A1 c1, Kd.R k27 27 W w.heap.size (fun _ => True) (.slice A1 l.length c1) l → w.heap.size ≤ W.heap.size → Calls Tryd.prog 53 #[.slice A1 l.length c1, .func (.func 54) #[] #[]] W fun e w' => e = .returned (.tuple #[]) ∧ Kd.C k27 w' A1 l.length (sortR l) ∧ Below w.heap.size W w' := by
    intro W A1 c1 h1 h2
    obtain ⟨A2, c2, e, -, h3⟩ := sort_row W _ l w.heap.size h1 hn h2
    injection e with e1 e2 e3
    subst e1 e3
    exact h3
  have hm0 := Kd.C_max hr
  have hm : l.length ≤ 9223372036854775807 := by omega
  have hdl := sortR_len l
  obtain ⟨d, hd⟩ : ∃ d, RowKit.Hid (d = sortR l) := ⟨_, Lib.hid rfl⟩
  obtain ⟨n, hnn⟩ : ∃ n, RowKit.Hid (n = l.length) := ⟨_, Lib.hid rfl⟩
  rw [← hlf.out, ← hd.out]
  rw [← hd.out] at hsort hdl
  obtain ⟨n0, hn0n⟩ : ∃ n0, RowKit.Hid (n0 = l0.length) := ⟨_, Lib.hid rfl⟩
  rw [← hn0n.out] at hclone hm0 hc ⊢
  rw [← hnn.out] at hdel hsort hdl hn hm
  have HN := Lib.hid (And.intro hn hdl)
  clear hr hn hn0 hd hdl hlf
  go_enter Tryd.func38, Tryd.ntmps38
  go_upto_region 6 with (first
    | (go_at_call 50; refine hclone.mono ?_; rintro e w2 ⟨v1, rfl, hR1, hb2⟩; have hR1 := Lib.hid hR1)
    | (go_at_call 51; refine (hdel _ _ hR1.out hb2.size).mono ?_; rintro e w3 ⟨A1, c1, rfl, hc1, hR3, hb3⟩; have hR3 := Lib.hid hR3)
    | (go_at_call 53; refine (hsort w3 A1 c1 hR3.out (Nat.le_trans hb2.size hb3.size)).mono ?_; rintro e w4 ⟨rfl, hC4, hb4⟩; have hC4 := Lib.hid hC4))
  have b4 : Below w.heap.size w w4 := (hb2.trans hb3).trans hb4
  have G := Lib.hid (And.intro hC4.out b4)
  clear hC4 b4 hb4 hb3 hb2 hR1 hR3 hclone hdel hsort hc
  go_loopw [4, 16] (fun v iv wr => ∃ i : Nat, i ≤ n ∧ iv = .int .i64 i ∧ Kd.R k27 27 wr w4.heap.size (fun _ => True) v ((d.take i).foldl stepR []) ∧ Below w4.heap.size w4 wr) (fun _ iv _ => n - (intOf iv).toNat)
  case atStart => exact ⟨0, by omega, rfl, Kd.R_nil _ _ _ _ _, Below.refl _ _⟩
  case round =>
    obtain ⟨i, hi, rfl, hR, hb⟩ := hrel
    by_cases hlt : i < n
    · have l16 : (0 : Int) ≤ (i : Int) := by omega
      have u16 : (i : Int) < (n : Int) := by omega
      have hi3 : i < d.length := by rw [HN.out.2]; exact hlt
      obtain ⟨ad, eA, x0, x1⟩ := at_T27 (Kd.C_below G.out.1 hb) (i : Int) l16 (by omega)
      simp only [Int.toNat_natCast] at x0 x1
      have eN := fold_snoc d i hi3
      have hol := fold_len (d.take i) []
      rw [List.length_take] at hol
      obtain ⟨r, hrr⟩ : ∃ r, RowKit.Hid (r = rd_T27 d (i : Int)) := ⟨_, Lib.hid rfl⟩
      rw [← hrr.out] at x0 x1 eN
      obtain ⟨out, hout⟩ : ∃ out, RowKit.Hid (out = (d.take i).foldl stepR []) := ⟨_, Lib.hid rfl⟩
      rw [← hout.out] at eN hR hol
      have hou : out.length ≤ n := by simp at hol; omega
      have E := Lib.hid (And.intro eN (And.intro hou HN.out.1))
      replace l16 := eq_true l16
      replace u16 := eq_true u16
      cases eA
      have hsz := hb.size
      have HB := Lib.hid (And.intro hb hsz)
      clear hb hsz eN hol hou hi3 hrr hout
      obtain ⟨f0, f1⟩ := r
      simp only at x0 x1
      rcases List.eq_nil_or_concat out with rfl | ⟨o', lst, hcc⟩
      · obtain ⟨Av, cv, rfl, hcv, -⟩ := Kd.R_reads hR
        rw [List.length_nil] at hR ⊢
        have F := Lib.hid hR
        clear hR hcv
        go_upto_region 9 with (fail)
        repeat (go_quiet (fail); try go_upto_region 10 with (fail))
        refine abs_m ?_
        intro w5 hw5
        have g5 : w5.heap[wr.heap.size]? = some (.cells #[.string f0, .string f1] 27 (0, 0)) := by rw [hw5]; exact heap_alloc_new wr _
        have b5 : Below wr.heap.size wr w5 := by rw [hw5]; first | exact pw_below_drewN ((Below.refl _ _).alloc (Nat.le_refl _) _) _ | exact ((Below.refl _ _).alloc (Nat.le_refl _) _).drew
        have t0 : w5.cell? ⟨wr.heap.size, 0, none⟩ = some (.string f0) := cell_of_row w5 _ 0 _ _ _ g5
        have t1 : w5.cell? ⟨wr.heap.size, 1, none⟩ = some (.string f1) := cell_of_row w5 _ 1 _ _ _ g5
        have R5 := Lib.hid (Kd.R_below F.out b5)
        have B5 := Lib.hid (HB.out.1.trans (b5.mono HB.out.2))
        have S5 := Lib.hid (Nat.le_trans HB.out.2 b5.size)
        clear hw5 b5 x0 x1
        go_wp2_with (first
          | (at_builtin; refine Kd.R_append k27 (w0 := w4) w4.heap.size rfl (.tmp 43) (.tmp 45) 35 27 (.agg #[.string ⟨#[]⟩, .string ⟨#[]⟩]) 32 rfl Tryd.underlying35 infoR rfl (by decide) (by decide) (.slice Av 0 cv) [] ⟨f0, f1⟩ [.string f0, .string f1] (fun _ => True) (fun _ => False) rfl rfl (k27_mkM _ _ _ ⟨f0, f1⟩) (fun _ h => h.elim) (fun _ _ => trivial) R5.out B5.out S5.out (by decide) ?_; intro v6 w6 hown6 hb6 hg6 hat6))
        refine ⟨⟨i + 1, by omega, by go_num, ?_, hb6⟩, by simp [intOf]; omega⟩
        rw [E.out.1]; exact hown6
      · rw [List.concat_eq_append] at hcc
        subst hcc
        obtain ⟨go, co, cur, rfl, hgo, hlt2, hco, hh, e0, e1, hset⟩ := last_row hR
        obtain ⟨k, hk⟩ : ∃ k, RowKit.Hid (k = o'.length) := ⟨_, Lib.hid rfl⟩
        rw [← hk.out] at e0 e1 hco hset hR ⊢
        have hkn : k < 4294967296 := by have h1 := E.out.2.1; have h2 := E.out.2.2; rw [List.length_append, ← hk.out] at h1; simp at h1; omega
        obtain ⟨m, hm2⟩ : ∃ m, RowKit.Hid (m = k + 1) := ⟨_, Lib.hid rfl⟩
        rw [← hm2.out] at hR hset hco ⊢
        obtain ⟨g0, g1⟩ := lst
        simp only at e0 e1
        have k0 : (0 : Int) ≤ (k : Int) := by omega
        have k1 : (k : Int) < (m : Int) := by have := hm2.out; omega
        have kw : IntKind.i64.wrap ((m : Int) - 1) = (k : Int) := by rw [show (m : Int) - 1 = (k : Int) by have := hm2.out; omega]; exact IntWalk.i64_in _ (by omega)
        have kw2 : wrap64 ((m : Int) - 1) = (k : Int) := by rw [show (m : Int) - 1 = (k : Int) by have := hm2.out; omega]; exact IntWalk.wrap64_in _ (by omega)
        have kn : decide ((k : Int) < 0) = false := decide_eq_false (by omega)
        have o0 : wr.cell? ⟨go, k * 2, none⟩ = some (.string g0) := (cell_of_row wr go (k * 2) _ _ _ hh).trans e0
        have o1 : wr.cell? ⟨go, k * 2 + 1, none⟩ = some (.string g1) := (cell_of_row wr go (k * 2 + 1) _ _ _ hh).trans e1
        have fo := frozen_of_row wr go (k * 2 + 1) _ _ hh
        have ha : (⟨go, 0, none⟩ : Addr).add (k * 2) = ⟨go, k * 2, none⟩ := by rw [Addr.add_lit, Nat.zero_add]
        have bw : ∀ q, Below wr.heap.size wr ((wr.alloc (.cells #[.string f0, .string f1] 27)).drewN q) := fun q => pw_below_drewN ((Below.refl _ _).alloc (Nat.le_refl _) _) q
        have F := Lib.hid (And.intro hR (And.intro hgo (And.intro hlt2 (And.intro hh hset))))
        have KN := Lib.hid hkn
        replace k0 := eq_true k0
        replace k1 := eq_true k1
        clear hR hgo hco hh e0 e1 hset hkn
        have hst := step_snoc o' ⟨g0, g1⟩ ⟨f0, f1⟩
        by_cases q1 : g1.toList = []
        · have q1a : (g1.toList == ([] : List UInt8)) = true := beq_iff_eq.mpr q1
          have q1b : (g1.toList != ([] : List UInt8)) = false := bne_eq_false_iff_eq.mpr q1
          rw [if_pos q1] at hst
          have ST := Lib.hid hst
          clear q1 hst
          go_upto_region 9 with (fail)
          repeat (go_quiet (fail); try go_wp2)
          refine ⟨⟨i + 1, by omega, by go_num, ?_, HB.out.1.trans ((bw _).mono HB.out.2)⟩, by simp [intOf]; omega⟩
          rw [E.out.1, ST.out]
          exact Kd.R_below F.out.1 (bw _)
        · have q1a : (g1.toList == ([] : List UInt8)) = false := beq_eq_false_iff_ne.mpr q1
          have q1b : (g1.toList != ([] : List UInt8)) = true := bne_iff_ne.mpr q1
          rw [if_neg q1] at hst
          clear q1
          by_cases q2 : lessB g1.toList f0.toList = true
          · have q2a : Op.bytesLess g1.toList f0.toList = true := q2
            rw [if_pos q2] at hst
            have ST := Lib.hid hst
            clear q2 hst
            go_upto_region 9 with (fail)
            repeat (go_quiet (fail); try go_upto_region 10 with (fail))
            refine abs_m ?_
            intro w5 hw5
            have g5 : w5.heap[wr.heap.size]? = some (.cells #[.string f0, .string f1] 27 (0, 0)) := by rw [hw5]; exact heap_alloc_new wr _
            have b5 : Below wr.heap.size wr w5 := by rw [hw5]; first | exact pw_below_drewN ((Below.refl _ _).alloc (Nat.le_refl _) _) _ | exact ((Below.refl _ _).alloc (Nat.le_refl _) _).drew
            have t0 : w5.cell? ⟨wr.heap.size, 0, none⟩ = some (.string f0) := cell_of_row w5 _ 0 _ _ _ g5
            have t1 : w5.cell? ⟨wr.heap.size, 1, none⟩ = some (.string f1) := cell_of_row w5 _ 1 _ _ _ g5
            have R5 := Lib.hid (Kd.R_below F.out.1 b5)
            have B5 := Lib.hid (HB.out.1.trans (b5.mono HB.out.2))
            have S5 := Lib.hid (Nat.le_trans HB.out.2 b5.size)
            clear hw5 b5 x0 x1 o0 o1 fo
            go_wp2_with (first
              | (at_builtin; refine Kd.R_append k27 (w0 := w4) w4.heap.size rfl (.tmp 43) (.tmp 45) 35 27 (.agg #[.string ⟨#[]⟩, .string ⟨#[]⟩]) 32 rfl Tryd.underlying35 infoR rfl (by decide) (by decide) (.slice (some ⟨go, 0, none⟩) m co) (o' ++ [⟨g0, g1⟩]) ⟨f0, f1⟩ [.string f0, .string f1] (fun _ => True) (fun _ => False) rfl rfl (k27_mkM _ _ _ ⟨f0, f1⟩) (fun _ h => h.elim) (fun _ _ => trivial) R5.out B5.out S5.out (by have h1 := E.out.2.1; have h2 := E.out.2.2; omega) ?_; intro v6 w6 hown6 hb6 hg6 hat6))
            refine ⟨⟨i + 1, by omega, by go_num, ?_, hb6⟩, by simp [intOf]; omega⟩
            rw [E.out.1, ST.out]; exact hown6
          · have q2a : Op.bytesLess g1.toList f0.toList = false := by simpa using q2
            rw [if_neg q2] at hst
            clear q2
            by_cases q3 : f1.toList = []
            · have q3a : (f1.toList == ([] : List UInt8)) = true := beq_iff_eq.mpr q3
              rw [if_pos q3] at hst
              have ST := Lib.hid hst
              clear q3 hst
              go_upto_region 9 with (fail)
              repeat (go_quiet (fail); try go_wp2)
              refine ⟨⟨i + 1, by omega, by go_num, ?_, (HB.out.1.trans ((bw _).mono HB.out.2)).setCell F.out.2.1 _⟩, by simp [intOf]; omega⟩
              rw [E.out.1, ST.out]
              exact F.out.2.2.2.2 _ f1 (heap_setCell_same _ go _ _ 27 _ (((bw _).block go F.out.2.2.1).trans F.out.2.2.2.1))
            · have q3a : (f1.toList == ([] : List UInt8)) = false := beq_eq_false_iff_ne.mpr q3
              rw [if_neg q3] at hst
              clear q3
              by_cases q4 : lessB g1.toList f1.toList = true
              · have q4a : Op.bytesLess g1.toList f1.toList = true := q4
                rw [if_pos q4] at hst
                have ST := Lib.hid hst
                clear q4 hst
                go_upto_region 9 with (fail)
                repeat (go_quiet (fail); try go_wp2)
                refine ⟨⟨i + 1, by omega, by go_num, ?_, (HB.out.1.trans ((bw _).mono HB.out.2)).setCell F.out.2.1 _⟩, by simp [intOf]; omega⟩
                rw [E.out.1, ST.out]
                exact F.out.2.2.2.2 _ f1 (heap_setCell_same _ go _ _ 27 _ (((bw _).block go F.out.2.2.1).trans F.out.2.2.2.1))
              · have q4a : Op.bytesLess g1.toList f1.toList = false := by simpa using q4
                rw [if_neg q4] at hst
                have ST := Lib.hid hst
                clear q4 hst
                go_upto_region 9 with (fail)
                repeat (go_quiet (fail); try go_wp2)
                refine ⟨⟨i + 1, by omega, by go_num, ?_, HB.out.1.trans ((bw _).mono HB.out.2)⟩, by simp [intOf]; omega⟩
                rw [E.out.1, ST.out]
                exact Kd.R_below F.out.1 (bw _)
    · obtain rfl : i = n := by omega
      have hlt' : ¬ ((i : Int) < (i : Int)) := by omega
      have hfull : d.take i = d := List.take_of_length_le (by rw [HN.out.2]; exact Nat.le_refl _)
      rw [hfull] at hR
      have F := Lib.hid (And.intro hR hb)
      clear hR hb hfull
      go_wp2
      go_ret
      exact ⟨_, rfl, Kd.R_lower F.out.1 G.out.2.size, G.out.2.trans (F.out.2.mono G.out.2.size)⟩
/-! #### a search in a list of ranges -/
theorem cmp_lt : ∀ a b : List UInt8, Lib.compareBytes a b < 0 ↔ Op.bytesLess a b = true
  | [], [] => by simp [Lib.compareBytes, Op.bytesLess]
  | [], y :: b => by simp [Lib.compareBytes, Op.bytesLess]
  | x :: a, [] => by simp [Lib.compareBytes, Op.bytesLess]
  | x :: a, y :: b => by
    have ih := cmp_lt a b
    unfold Lib.compareBytes Op.bytesLess
    by_cases h1 : x < y
    · simp [h1]
    · by_cases h2 : y < x
      · have h3 : x ≠ y := by rintro rfl; exact h1 h2
        simp [h1, h2, h3]
      · have h3 : x = y := by
          apply UInt8.toNat_inj.1
          simp only [UInt8.lt_iff_toNat_lt] at *; omega
        subst h3
        simp [h1, ih]
theorem cmp_eq0 : ∀ a b : List UInt8, Lib.compareBytes a b = 0 ↔ a = b
  | [], [] => by simp [Lib.compareBytes]
  | [], y :: b => by simp [Lib.compareBytes]
  | x :: a, [] => by simp [Lib.compareBytes]
  | x :: a, y :: b => by
    have ih := cmp_eq0 a b
    unfold Lib.compareBytes
    by_cases h1 : x < y
    · have h3 : x ≠ y := by rintro rfl; simp only [UInt8.lt_iff_toNat_lt] at h1; omega
      simp [h1, h3]
    · by_cases h2 : y < x
      · have h3 : x ≠ y := by rintro rfl; exact h1 h2
        simp [h1, h2, h3]
      · have h3 : x = y := by
          apply UInt8.toNat_inj.1
          simp only [UInt8.lt_iff_toNat_lt] at *; omega
        subst h3
        simp [h1, ih]
def cmpR (l : List S27) (j : Nat) (key : ByteArray) : Int := Lib.compareBytes (rd_T27 l (j : Int)).f0.data.toList key.data.toList
set_option maxRecDepth 100000 in
theorem cloH (x : S27) (k : ByteArray) (W : World) : Calls Tryd.prog 61 #[.agg #[.string x.f0, .string x.f1], .string k] W fun e w' => e = .returned (.int .i64 (Lib.compareBytes x.f0.data.toList k.data.toList)) ∧ Below W.heap.size W w' := by
  have hcon := fun W' => Any.strings_Compare Tryd.cmpS x.f0 k W'
  change ∀ W', Calls Tryd.prog 55 _ _ _ at hcon
  generalize Lib.compareBytes x.f0.data.toList k.data.toList = r at hcon ⊢
  go_enter Tryd.func61, Tryd.ntmps61
  go_wp2_with (go_at_call 55; refine (hcon _).mono ?_; rintro e w' ⟨rfl, rfl⟩)
  go_ret
  exact ⟨rfl, (Below.refl _ _).alloc (Nat.le_refl _) _⟩
/-- What the search answers. -/
def BsPost (l : List S27) (n : Nat) (key : ByteArray) (w : World) (e : Ending) (w' : World) : Prop := ∃ (i : Nat) (b : Bool), i ≤ n ∧ (∀ j, j < i → cmpR l j key < 0) ∧ (∀ j, i ≤ j → j < n → 0 ≤ cmpR l j key) ∧
      b = decide (i < n ∧ cmpR l i key = 0) ∧ e = .returned (.tuple #[.int .i64 i, .bool b]) ∧ Below w.heap.size w w'
set_option maxRecDepth 100000 in
set_option maxHeartbeats 8000000 in
theorem bs_any (w : World) (A : Option Addr) (c : Nat) (l : List S27) (key : ByteArray) (hr : Kd.C k27 w A l.length l) (hn : l.length ≤ 4294967296)
    (hs : ∀ a b : Nat, a ≤ b → b < l.length → cmpR l b key < 0 → cmpR l a key < 0) :
    Calls Tryd.prog 56 #[.slice A l.length c, .string key, .func (.func 61) #[] #[]] w (BsPost l l.length key w) := by
  obtain ⟨n, hN⟩ : ∃ n, RowKit.Hid (n = l.length) := ⟨_, Lib.hid rfl⟩
  have R := Lib.hid (And.intro hr hs)
  rw [← hN.out] at hn ⊢
  clear hr hs
  go_enter Tryd.func56, Tryd.ntmps56
  go_upto_region 3 with (fail)
  go_loopw [9, 10] (fun iv jv wr => ∃ i j : Nat, i ≤ j ∧ j ≤ n ∧ iv = .int .i64 i ∧ jv = .int .i64 j ∧ (∀ q, q < i → cmpR l q key < 0) ∧ (∀ q, j ≤ q → q < n → 0 ≤ cmpR l q key) ∧ Below w.heap.size w wr) (fun iv jv _ => (intOf jv - intOf iv).toNat)
  case atStart => exact ⟨0, n, by omega, by omega, rfl, rfl, fun q hq => by omega, fun q h1 h2 => by omega, Below.refl _ _⟩
  case round =>
    obtain ⟨i, j, hij, hj, rfl, rfl, hlo, hhi, hb⟩ := hrel
    have hz := hb.size
    by_cases hlt : i < j
    · have h1 : i ≤ (i + j) / 2 := by omega
      have h2 : (i + j) / 2 < j := by omega
      have u16 : (((i + j) / 2 : Nat) : Int) < (n : Int) := by omega
      obtain ⟨ad, eA, x0, x1⟩ := at_T27 (Kd.C_below R.out.1 hb) (((i + j) / 2 : Nat) : Int) (by omega) (by rw [← hN.out]; exact u16)
      simp only [Int.toNat_natCast] at x0 x1
      obtain ⟨r, hrr⟩ : ∃ r, RowKit.Hid (r = rd_T27 l (((i + j) / 2 : Nat) : Int)) := ⟨_, Lib.hid rfl⟩
      rw [← hrr.out] at x0 x1
      obtain ⟨v, hv⟩ : ∃ v, RowKit.Hid (v = cmpR l ((i + j) / 2) key) := ⟨_, Lib.hid rfl⟩
      have hclo : ∀ W, Calls Tryd.prog 61 #[.agg #[.string r.f0, .string r.f1], .string key] W fun e w' => e = .returned (.int .i64 v) ∧ Below W.heap.size W w' := by
        intro W
        rw [hv.out]
        unfold cmpR
        rw [← hrr.out]
        exact cloH r key W
      have s0 : (i : Int) < (j : Int) := by omega
      have s1 : (0 : Int) ≤ (i : Int) := by omega
      have s2 : (i : Int) ≤ 4294967296 := by omega
      have s3 : (j : Int) ≤ 4294967296 := by omega
      have s4 : (0 : Int) ≤ (j : Int) := by omega
      have H := Lib.hid (And.intro hlo (And.intro hhi (And.intro hb hz)))
      clear hlo hhi hb hz
      cases eA
      by_cases hc : v < 0
      · go_wp2_with (first
          | (go_at_call 61; refine (hclo _).mono ?_; rintro e w2 ⟨rfl, hb2⟩))
        refine ⟨⟨(i + j) / 2 + 1, j, by omega, hj, by go_num, rfl, fun q hq => ?_, H.out.2.1, H.out.2.2.1.trans (hb2.mono H.out.2.2.2)⟩, by simp [intOf]; omega⟩
        exact R.out.2 q ((i + j) / 2) (by omega) (by rw [← hN.out]; omega) (by rw [← hv.out]; exact hc)
      · go_wp2_with (first
          | (go_at_call 61; refine (hclo _).mono ?_; rintro e w2 ⟨rfl, hb2⟩))
        refine ⟨⟨i, (i + j) / 2, by omega, by omega, rfl, by go_num, H.out.1, fun q h3 h4 => ?_, H.out.2.2.1.trans (hb2.mono H.out.2.2.2)⟩, by simp [intOf]; omega⟩
        by_cases h5 : cmpR l q key < 0
        · have h6 : v < 0 := by rw [hv.out]; exact R.out.2 ((i + j) / 2) q h3 (by rw [← hN.out]; exact h4) h5
          omega
        · omega
    · obtain rfl : i = j := by omega
      have s0 : ¬ ((i : Int) < (i : Int)) := by omega
      by_cases hin : i < n
      · have u16 : (i : Int) < (n : Int) := by omega
        obtain ⟨ad, eA, x0, x1⟩ := at_T27 (Kd.C_below R.out.1 hb) (i : Int) (by omega) (by rw [← hN.out]; exact u16)
        simp only [Int.toNat_natCast] at x0 x1
        obtain ⟨r, hrr⟩ : ∃ r, RowKit.Hid (r = rd_T27 l (i : Int)) := ⟨_, Lib.hid rfl⟩
        rw [← hrr.out] at x0 x1
        obtain ⟨v, hv⟩ : ∃ v, RowKit.Hid (v = cmpR l i key) := ⟨_, Lib.hid rfl⟩
        have hclo : ∀ W, Calls Tryd.prog 61 #[.agg #[.string r.f0, .string r.f1], .string key] W fun e w' => e = .returned (.int .i64 v) ∧ Below W.heap.size W w' := by
          intro W
          rw [hv.out]
          unfold cmpR
          rw [← hrr.out]
          exact cloH r key W
        have H := Lib.hid (And.intro hlo (And.intro hhi (And.intro hb hz)))
        clear hlo hhi hb hz
        have l16 : (0 : Int) ≤ (i : Int) := by omega
        replace u16 := eq_true u16
        cases eA
        go_wp2_with (first
          | (go_at_call 61; refine (hclo _).mono ?_; rintro e w2 ⟨rfl, hb2⟩))
        go_ret2
        refine ⟨i, v == 0, by omega, H.out.1, H.out.2.1, ?_, rfl, H.out.2.2.1.trans (hb2.mono H.out.2.2.2)⟩
        have hv' := hv.out
        by_cases e0 : v = 0
        · rw [e0] at hv' ⊢
          rw [decide_eq_true (⟨hin, hv'.symm⟩ : i < n ∧ cmpR l i key = 0)]
          rfl
        · rw [decide_eq_false (fun h : i < n ∧ cmpR l i key = 0 => e0 (hv'.trans h.2))]
          exact beq_eq_false_iff_ne.2 e0
      · obtain rfl : i = n := by omega
        have H := Lib.hid (And.intro hlo hb)
        clear hlo hhi
        go_wp2
        go_ret2
        refine ⟨i, false, by omega, H.out.1, fun j h3 h4 => by omega, ?_, rfl, H.out.2⟩
        rw [decide_eq_false (fun h : i < i ∧ cmpR l i key = 0 => absurd h.1 (Nat.lt_irrefl i))]
set_option maxRecDepth 100000 in
set_option maxHeartbeats 8000000 in
theorem has_any (x : S27) (k : ByteArray) (W : World) : Calls Tryd.prog 58 #[.agg #[.string x.f0, .string x.f1], .string k] W fun e w' => e = .returned (.bool (!(Op.bytesLess k.toList x.f0.toList) && (x.f1.toList == [] || Op.bytesLess k.toList x.f1.toList))) ∧ Below W.heap.size W w' := by
  have HB : Below W.heap.size W (W.alloc (.cells #[.string x.f0, .string x.f1] 27)) := (Below.refl _ _).alloc (Nat.le_refl _) _
  have HB := Lib.hid HB
  cases h1 : Op.bytesLess k.toList x.f0.toList with
  | true =>
    have q0 : (!(Op.bytesLess k.toList x.f0.toList)) = false := by rw [h1]; rfl
    go_enter Tryd.func58, Tryd.ntmps58
    go_wp2
    go_ret
    exact ⟨rfl, HB.out⟩
  | false =>
    have q0 : (!(Op.bytesLess k.toList x.f0.toList)) = true := by rw [h1]; rfl
    cases h2 : (x.f1.toList == []) with
    | true =>
      go_enter Tryd.func58, Tryd.ntmps58
      go_wp2
      go_ret
      exact ⟨rfl, HB.out⟩
    | false =>
      go_enter Tryd.func58, Tryd.ntmps58
      go_wp2
      go_ret
      exact ⟨rfl, HB.out⟩
/-- A list whose ranges' beginnings rise. -/
def RisesR (l : List S27) : Prop := ∀ a b : Nat, a < b → b < l.length → Op.bytesLess (rd_T27 l (a : Int)).f0.toList (rd_T27 l (b : Int)).f0.toList = true
def hasR (x : S27) (k : ByteArray) : Bool := !(Op.bytesLess k.toList x.f0.toList) && (x.f1.toList == [] || Op.bytesLess k.toList x.f1.toList)
/-- Has the last range that begins no later the text? -/
def HoldsPost (l : List S27) (key : ByteArray) (w : World) (e : Ending) (w' : World) : Prop := (∃ b : Bool, e = .returned (.bool b) ∧ ((b = false ∧ (∀ j, j < l.length → Op.bytesLess key.toList (rd_T27 l (j : Int)).f0.toList = true)) ∨
  ∃ i : Nat, i < l.length ∧ Op.bytesLess key.toList (rd_T27 l (i : Int)).f0.toList = false ∧ (∀ j, i < j → j < l.length → Op.bytesLess key.toList (rd_T27 l (j : Int)).f0.toList = true) ∧ b = hasR (rd_T27 l (i : Int)) key)) ∧ Below w.heap.size w w'
theorem toList_data (a : ByteArray) : a.data.toList = a.toList := by rw [ByteArray.toList_eq]
set_option maxRecDepth 100000 in
set_option maxHeartbeats 8000000 in
theorem holds_any (w : World) (A : Option Addr) (c : Nat) (l : List S27) (key : ByteArray) (hr : Kd.C k27 w A l.length l) (hn : l.length ≤ 4294967296)
    (hs : RisesR l) :
    Calls Tryd.prog 44 #[.slice A l.length c, .string key] w (HoldsPost l key w) := by
  have hmono : ∀ a b : Nat, a ≤ b → b < l.length → cmpR l b key < 0 → cmpR l a key < 0 := by
    intro a b hab hb h
    rcases Nat.lt_or_ge a b with h1 | h1
    · unfold cmpR at h ⊢
      rw [cmp_lt, toList_data, toList_data] at h ⊢
      exact Texts.trans (hs a b h1 hb) h
    · obtain rfl : a = b := by omega
      exact h
  have hbs := bs_any w A c l key hr hn hmono
  have hhas := fun x W => has_any x key W
  have hge : ∀ j, 0 ≤ cmpR l j key → Op.bytesLess (rd_T27 l (j : Int)).f0.toList key.toList = false := by
    intro j h
    cases e : Op.bytesLess (rd_T27 l (j : Int)).f0.toList key.toList with
    | false => rfl
    | true =>
      rw [← toList_data, ← toList_data, ← cmp_lt] at e
      unfold cmpR at h
      omega
  have heq : ∀ j, cmpR l j key = 0 → (rd_T27 l (j : Int)).f0.toList = key.toList := by
    intro j h
    unfold cmpR at h
    rw [cmp_eq0, toList_data, toList_data] at h
    exact h
  have hlt : ∀ j, cmpR l j key < 0 → Op.bytesLess (rd_T27 l (j : Int)).f0.toList key.toList = true := by
    intro j h
    unfold cmpR at h
    rw [cmp_lt, toList_data, toList_data] at h
    exact h
  have R := Lib.hid (And.intro hr (And.intro hs (And.intro hge (And.intro heq hlt))))
  obtain ⟨n, hN⟩ : ∃ n, RowKit.Hid (n = l.length) := ⟨_, Lib.hid rfl⟩
  rw [← hN.out] at hbs hn ⊢
  clear hr hs hge heq hlt hmono
  go_enter Tryd.func44, Tryd.ntmps44
  go_upto_region 2 with (first
    | (go_at_call 56; refine hbs.mono ?_; rintro e w2 ⟨i, b, hi, hlo, hhi, hb, rfl, hb2⟩; have Hb := Lib.hid hb; have Hb2 := Lib.hid hb2; clear hb hb2))
  have hup : b = false → ∀ j, i ≤ j → j < n → Op.bytesLess key.toList (rd_T27 l (j : Int)).f0.toList = true := by
    intro e j h1 h2
    have h3 := R.out.2.2.1 j (hhi j h1 h2)
    by_cases h4 : Op.bytesLess key.toList (rd_T27 l (j : Int)).f0.toList = true
    · exact h4
    · have h5 := Texts.eq_of_not h3 (by simpa using h4)
      rcases Nat.lt_or_ge i j with h6 | h6
      · have h7 := R.out.2.1 i j h6 (by rw [← hN.out]; exact h2)
        rw [h5] at h7
        have h8 := R.out.2.2.1 i (hhi i (Nat.le_refl _) (by omega))
        rw [h8] at h7; cases h7
      · obtain rfl : i = j := by omega
        have h9 := Hb.out
        rw [e] at h9
        have h10 : cmpR l i key = 0 := by
          unfold cmpR
          rw [cmp_eq0, toList_data, toList_data]
          exact h5
        rw [decide_eq_true (⟨h2, h10⟩ : i < n ∧ cmpR l i key = 0)] at h9
        cases h9
  have hdn : b = true → i < n ∧ (rd_T27 l (i : Int)).f0.toList = key.toList ∧ ∀ j, i < j → j < n → Op.bytesLess key.toList (rd_T27 l (j : Int)).f0.toList = true := by
    intro e
    have h9 := Hb.out
    rw [e] at h9
    have h10 := of_decide_eq_true h9.symm
    refine ⟨h10.1, R.out.2.2.2.1 i h10.2, fun j h1 h2 => ?_⟩
    rw [← R.out.2.2.2.1 i h10.2]
    exact R.out.2.1 i j h1 (by rw [← hN.out]; exact h2)
  have hlo' : ∀ j, j < i → Op.bytesLess (rd_T27 l (j : Int)).f0.toList key.toList = true := fun j h => R.out.2.2.2.2 j (hlo j h)
  have X := Lib.hid (And.intro hup (And.intro hdn hlo'))
  have hC : RowKit.Hid (Kd.C k27 w2 A n l) := Lib.hid (by rw [hN.out]; exact Kd.C_below R.out.1 Hb2.out)
  clear hup hdn hlo' hlo hhi hbs
  cases b with
  | true =>
    have hin : i < n := (X.out.2.1 rfl).1
    have l16 : (0 : Int) ≤ (i : Int) := by omega
    have u16 : (i : Int) < (n : Int) := by omega
    obtain ⟨ad, eA, x0, x1⟩ := at_T27 hC.out (i : Int) l16 u16
    simp only [Int.toNat_natCast] at x0 x1
    obtain ⟨r, hrr⟩ : ∃ r, RowKit.Hid (r = rd_T27 l (i : Int)) := ⟨_, Lib.hid rfl⟩
    rw [← hrr.out] at x0 x1
    cases eA
    obtain ⟨bb, hbb⟩ : ∃ bb, RowKit.Hid (bb = hasR r key) := ⟨_, Lib.hid rfl⟩
    have hh : ∀ W, Calls Tryd.prog 58 #[.agg #[.string r.f0, .string r.f1], .string key] W fun e w' => e = .returned (.bool bb) ∧ Below W.heap.size W w' := by
      intro W; rw [hbb.out]; exact hhas r W
    clear hhas
    go_wp2_with (first
      | (go_at_call 58; refine (hh _).mono ?_; rintro e w3 ⟨rfl, hb3⟩))
    go_ret
    refine ⟨⟨bb, rfl, .inr ⟨i, by rw [← hN.out]; exact hin, ?_, fun j h1 h2 => (X.out.2.1 (by trivial)).2.2 j h1 (by rw [hN.out]; exact h2), by rw [← hrr.out]; exact hbb.out⟩⟩, Hb2.out.trans (hb3.mono Hb2.out.size)⟩
    rw [(X.out.2.1 (by trivial)).2.1]
    exact Texts.irrefl _
  | false =>
    cases i with
    | zero =>
      go_wp2
      go_ret
      exact ⟨⟨false, rfl, .inl ⟨rfl, fun j h => X.out.1 (by trivial) j (Nat.zero_le _) (by rw [hN.out]; exact h)⟩⟩, Hb2.out⟩
    | succ m =>
      have l16 : (0 : Int) ≤ (m : Int) := by omega
      have u16 : (m : Int) < (n : Int) := by omega
      obtain ⟨ad, eA, x0, x1⟩ := at_T27 hC.out (m : Int) l16 u16
      simp only [Int.toNat_natCast] at x0 x1
      obtain ⟨r, hrr⟩ : ∃ r, RowKit.Hid (r = rd_T27 l (m : Int)) := ⟨_, Lib.hid rfl⟩
      rw [← hrr.out] at x0 x1
      cases eA
      obtain ⟨bb, hbb⟩ : ∃ bb, RowKit.Hid (bb = hasR r key) := ⟨_, Lib.hid rfl⟩
      have hh : ∀ W, Calls Tryd.prog 58 #[.agg #[.string r.f0, .string r.f1], .string key] W fun e w' => e = .returned (.bool bb) ∧ Below W.heap.size W w' := by
        intro W; rw [hbb.out]; exact hhas r W
      have q0 : wrap64 (((m + 1 : Nat) : Int) - 1) = (m : Int) := by rw [IntWalk.wrap64_in _ (by omega)]; omega
      have q1 : IntKind.i64.wrap (((m + 1 : Nat) : Int) - 1) = (m : Int) := by rw [IntWalk.i64_in _ (by omega)]; omega
      clear hhas
      go_wp2_with (first
        | (go_at_call 58; refine (hh _).mono ?_; rintro e w3 ⟨rfl, hb3⟩))
      go_ret
      refine ⟨⟨bb, rfl, .inr ⟨m, by rw [← hN.out]; omega, ?_, fun j h1 h2 => X.out.1 (by trivial) j (by omega) (by rw [hN.out]; exact h2), by rw [← hrr.out]; exact hbb.out⟩⟩, Hb2.out.trans (hb3.mono Hb2.out.size)⟩
      exact Texts.asymm (X.out.2.2 m (by omega))
/-! #### the program's normal form -/
section
open Go.Proofs.YtmjmjjhfficilaaDoor.Texts
def pR (x : S27) : R := (x.f0.toList, x.f1.toList)
theorem rdR (l : List S27) (i : Nat) (h : i < l.length) : rd_T27 l (i : Int) = l[i] := by unfold rd_T27; simp [List.getD, List.getElem?_eq_getElem h]
theorem rdB (l : List ByteArray) (i : Nat) (h : i < l.length) : rdOf ByteArray.empty l (i : Int) = l[i] := by unfold rdOf; simp [List.getD, List.getElem?_eq_getElem h]
theorem w_up (i : Nat) (h : i ≤ 4294967296) : wrap64 ((i : Int) + 1) = ((i + 1 : Nat) : Int) := IntWalk.wrap64_in _ (by omega)
theorem w_down (i : Nat) (h0 : 0 < i) (h : i ≤ 4294967296) : wrap64 ((i : Int) - 1) = ((i - 1 : Nat) : Int) := by rw [IntWalk.wrap64_in _ (by omega)]; omega
/-! ### the program -/
theorem step_p (out : List S27) (r : S27) : (stepR out r).map pR = stepP (out.map pR) (pR r) := by
  rcases List.eq_nil_or_concat out with rfl | ⟨o, l, h⟩
  · rfl
  · rw [List.concat_eq_append] at h
    subst h
    rw [step_snoc, List.map_append, List.map_cons, List.map_nil, stepP_snoc]
    show List.map pR (if l.f1.toList = [] then _ else if lessB l.f1.toList r.f0.toList = true then _ else if r.f1.toList = [] then _ else if lessB l.f1.toList r.f1.toList = true then _ else _) = if l.f1.toList = [] then _ else if lessB l.f1.toList r.f0.toList = true then _ else if r.f1.toList = [] then _ else if lessB l.f1.toList r.f1.toList = true then _ else _
    repeat' split
    all_goals simp [pR]
theorem fold_p (l : List S27) : ∀ out : List S27, (l.foldl stepR out).map pR = (l.map pR).foldl stepP (out.map pR) := by
  induction l with
  | nil => intro out; rfl
  | cons a l ih => intro out; rw [List.foldl_cons, ih, step_p]; rfl
theorem full_ok {x : S27} (h : full x = true) : ok (pR x) := by
  unfold full emptyR at h
  unfold ok pR
  by_cases q : x.f1.toList = []
  · exact .inl q
  · rw [if_neg q] at h
    simp at h
    exact .inr h
theorem empty_has {x : S27} (h : full x = false) (k : T) : has (pR x) k = false := by
  unfold full emptyR at h
  by_cases q : x.f1.toList = []
  · rw [if_pos q] at h; cases h
  · rw [if_neg q] at h
    simp at h
    cases e : has (pR x) k with
    | false => rfl
    | true =>
      rw [has_iff] at e
      rcases e.2 with e2 | e2
      · exact absurd e2 q
      · have := le_lt e.1 e2
        rw [show lt (pR x).1 (pR x).2 = Op.bytesLess x.f0.toList x.f1.toList from rfl, h] at this
        cases this
theorem hasL_perm {l m : List R} (h : l.Perm m) (k : T) : hasL l k = hasL m k := by
  apply bool_ext
  rw [hasL_iff, hasL_iff]
  constructor
  · rintro ⟨x, hx, e⟩; exact ⟨x, h.mem_iff.1 hx, e⟩
  · rintro ⟨x, hx, e⟩; exact ⟨x, h.mem_iff.2 hx, e⟩
theorem hasL_filter (k : T) : ∀ l : List S27, hasL ((l.filter full).map pR) k = hasL (l.map pR) k
  | [] => rfl
  | x :: l => by
    have ih := hasL_filter k l
    rw [List.filter_cons]
    cases e : full x with
    | true => rw [if_pos rfl, List.map_cons, List.map_cons, hasL_cons, hasL_cons, ih]
    | false => rw [if_neg Bool.false_ne_true, List.map_cons, hasL_cons, empty_has e, Bool.false_or, ih]
theorem merged_ok (l : List S27) : NF (((sortR (l.filter full)).foldl stepR []).map pR) ∧ ∀ k, hasL (((sortR (l.filter full)).foldl stepR []).map pR) k = hasL (l.map pR) k := by
  obtain ⟨hp, hs⟩ := sortR_both (l.filter full)
  rw [fold_p]
  have hsrt : ((sortR (l.filter full)).map pR).Pairwise fun a b => lt b.1 a.1 = false := by
    rw [List.pairwise_iff_getElem]
    intro i j hi hj hij
    have hi' : i < (sortR (l.filter full)).length := by simpa using hi
    have hj' : j < (sortR (l.filter full)).length := by simpa using hj
    have h := hs i j hij (by rw [← hp.length_eq]; exact hj')
    have e1 : (sortR (l.filter full)).toArray[i]! = (sortR (l.filter full))[i] := by simp [hi']
    have e2 : (sortR (l.filter full)).toArray[j]! = (sortR (l.filter full))[j] := by simp [hj']
    rw [e1, e2] at h
    simp only [List.getElem_map]
    show Op.bytesLess ((sortR (l.filter full))[j]).f0.toList ((sortR (l.filter full))[i]).f0.toList = false
    rw [ByteArray.toList_eq, ByteArray.toList_eq]
    exact h
  have hok : ∀ r ∈ (sortR (l.filter full)).map pR, ok r := by
    intro r hr
    obtain ⟨x, hx, rfl⟩ := List.mem_map.1 hr
    exact full_ok (List.mem_filter.1 (hp.mem_iff.1 hx)).2
  obtain ⟨a, b⟩ := fold_ok _ hsrt hok [] ⟨fun x hx => (by cases hx), List.Pairwise.nil⟩ (fun o l e => by simp at e)
  refine ⟨a, fun k => ?_⟩
  rw [show ([] : List S27).map pR = [] from rfl, b, hasL_perm (hp.map pR)]
  show (false || _) = _
  rw [Bool.false_or]
  exact hasL_filter k l
end
section
open Go.Proofs.YtmjmjjhfficilaaDoor.Texts
theorem nf_rises {l : List S27} (h : NF (l.map pR)) : RisesR l := by
  intro a b hab hb
  have ha : a < l.length := by omega
  rw [rdR l a ha, rdR l b hb]
  have h1 := List.pairwise_iff_getElem.1 h.2 a b (by rw [List.length_map]; omega) (by rw [List.length_map]; exact hb) hab
  rw [List.getElem_map, List.getElem_map] at h1
  have h2 := h.1 (pR l[a]) (List.mem_map_of_mem (List.getElem_mem _))
  rcases h2 with h2 | h2
  · exact absurd h2 h1.1
  · exact Texts.trans h2 h1.2
theorem holds_has {l : List S27} (h : NF (l.map pR)) {key : ByteArray} {w w' : World} {e : Ending} (hp : HoldsPost l key w e w') : e = .returned (.bool (hasL (l.map pR) key.toList)) ∧ Below w.heap.size w w' := by
  obtain ⟨⟨b, rfl, hb⟩, hB⟩ := hp
  refine ⟨?_, hB⟩
  have hrw : ∀ (j : Nat) (hj : j < l.length), rd_T27 l (j : Int) = l[j] := fun j hj => rdR l j hj
  have key1 : hasL (l.map pR) key.toList = b := by
    rcases hb with ⟨rfl, hall⟩ | ⟨i, hi, hle, hgt, rfl⟩
    · cases e : hasL (l.map pR) key.toList with
      | false => rfl
      | true =>
        obtain ⟨x, hx, hh⟩ := hasL_iff.1 e
        obtain ⟨y, hy, rfl⟩ := List.mem_map.1 hx
        obtain ⟨j, hj, rfl⟩ := List.mem_iff_getElem.1 hy
        have h1 := hall j hj
        rw [hrw j hj] at h1
        have h2 := (has_iff.1 hh).1
        rw [show lt key.toList (pR l[j]).1 = true from h1] at h2
        cases h2
    · rw [hrw i hi] at hle ⊢
      have hR : hasR l[i] key = has (pR l[i]) key.toList := rfl
      rw [hR]
      cases e : has (pR l[i]) key.toList with
      | true => exact hasL_iff.2 ⟨pR l[i], List.mem_map_of_mem (List.getElem_mem _), e⟩
      | false =>
        cases e2 : hasL (l.map pR) key.toList with
        | false => rfl
        | true =>
          obtain ⟨x, hx, hh⟩ := hasL_iff.1 e2
          obtain ⟨y, hy, rfl⟩ := List.mem_map.1 hx
          obtain ⟨j, hj, rfl⟩ := List.mem_iff_getElem.1 hy
          rcases Nat.lt_trichotomy j i with h1 | h1 | h1
          · have h3 := List.pairwise_iff_getElem.1 h.2 j i (by rw [List.length_map]; omega) (by rw [List.length_map]; exact hi) h1
            rw [List.getElem_map, List.getElem_map] at h3
            have h4 := (has_iff.1 hh).2
            rcases h4 with h4 | h4
            · exact absurd h4 h3.1
            · have h5 := Texts.trans h4 h3.2
              have h6 : lt key.toList (pR l[i]).1 = false := hle
              rw [h5] at h6; cases h6
          · subst h1
            rw [e] at hh; cases hh
          · have h3 := hgt j h1 hj
            rw [hrw j hj] at h3
            have h2 := (has_iff.1 hh).1
            rw [show lt key.toList (pR l[j]).1 = true from h3] at h2
            cases h2
  rw [key1]
theorem holds_nf (w : World) (A : Option Addr) (c : Nat) (l : List S27) (key : ByteArray) (hr : Kd.C k27 w A l.length l) (hn : l.length ≤ 4294967296) (h : NF (l.map pR)) :
    Calls Tryd.prog 44 #[.slice A l.length c, .string key] w fun e w' => e = .returned (.bool (hasL (l.map pR) key.toList)) ∧ Below w.heap.size w w' :=
  (holds_any w A c l key hr hn (nf_rises h)).mono fun _ _ hp => holds_has h hp
def mergeF (l : List S27) : List S27 := (sortR (l.filter full)).foldl stepR []
theorem mergeF_len (l : List S27) : (mergeF l).length ≤ l.length := by
  have h := fold_len (sortR (l.filter full)) []
  have h2 := List.length_filter_le full l
  rw [sortR_len] at h
  simp at h
  unfold mergeF
  omega
theorem mergeF_nf (l : List S27) : NF ((mergeF l).map pR) := (merged_ok l).1
theorem mergeF_has (l : List S27) (k : T) : hasL ((mergeF l).map pR) k = hasL (l.map pR) k := (merged_ok l).2 k
end
def span_merged.f (l0 : List (S27)) : Option (List (S27)) := if l0.length ≤ 4294967296 then some ((sortR (l0.filter full)).foldl stepR []) else none
theorem span_merged.calls (A0 : Option Addr) (c0 : Nat) (l0 : List (S27)) (r : List (S27)) (w : World) (hr0 : Kd.C k27 w A0 l0.length l0) (hc0 : l0.length ≤ c0) (h : span_merged.f l0 = some r) :
    Calls Tryd.prog 38 #[.slice A0 l0.length c0] w fun e w' => ∃ v0_ : Value, e = .returned (v0_) ∧ Kd.R k27 27 w' w.heap.size (fun _ => True) v0_ r ∧ Below w.heap.size w w' := by
  unfold span_merged.f at h
  split at h
  · rename_i he
    injection h with h
    subst h
    exact merged_any w A0 c0 l0 hr0 hc0 he
  · cases h

end Go.Proofs.YtmjmjjhfficilaaDoor.PSpanTouches

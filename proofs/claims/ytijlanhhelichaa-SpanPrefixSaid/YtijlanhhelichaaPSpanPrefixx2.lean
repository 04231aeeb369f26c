/- What is proved: contracts of the functions that the law uses, each under the conditions that its theorem states. Written by a program of this session: texts of the kit's print, and texts by hand for the functions that the print does not take. -/
import Derived.Test.YtijlanhhelichaaPSpanPrefixx0
import Derived.Test.YtijlanhhelichaaPSpanPrefixx1
namespace Go.Proofs.Ytijlanhhelichaa.PSpanPrefix
open Go.RowKit Go.Proofs.YtijlanhhelichaaW.PrintWords Go.Proofs.YtijlanhhelichaaW.PrintLast Go.Proofs.YtijlanhhelichaaW.PrintMore
attribute [local go_sem] max2_int min2_int max_two min_two max_three min_three max_four min_four   -- for this text's walks alone
set_option linter.unusedVariables false
set_option linter.unusedSimpArgs false

/-! ### span_merged: function 13 -/
open Go.Shelf Go.Lib Go.Sort in
def encR (x : S24) : List Value := [.string x.f0, .string x.f1]
instance instInhR : Inhabited S24 := ⟨⟨⟨#[]⟩, ⟨#[]⟩⟩⟩
def rB : S24 := ⟨⟨#[98]⟩, ⟨#[99]⟩⟩
def rA : S24 := ⟨⟨#[97]⟩, ⟨#[98]⟩⟩
def rC : S24 := ⟨⟨#[97]⟩, ⟨#[99]⟩⟩
theorem abs_m {P : Program} {c : Code} {Q : Exit → Act → World → Prop} {a : Act} {w : World} (h : ∀ w', w' = w → Code.wp P c Q a w') : Code.wp P c Q a w := h w rfl
open Go.Shelf Go.Lib Go.Sort in
set_option maxHeartbeats 1000000 in
theorem clo (x y : S24) (W : World) : Calls Try.prog 18 #[.agg #[.string x.f0, .string x.f1], .agg #[.string y.f0, .string y.f1]] W fun e w' => e = .returned (.int .i64 (Lib.compareBytes x.f0.data.toList y.f0.data.toList)) ∧ ∃ q os', w' = grow (W.drewN q) os' := by
  have hcon := fun W' => Any.strings_Compare Try.cmpS x.f0 y.f0 W'
  change ∀ W', Calls Try.prog 19 _ _ _ at hcon
  generalize Lib.compareBytes x.f0.data.toList y.f0.data.toList = r at hcon ⊢
  go_enter Try.func18, Try.ntmps18
  go_wp2_with (go_at_call 19; refine (hcon _).mono ?_; rintro e w' ⟨rfl, rfl⟩)
  go_ret
  exact ⟨rfl, 0, _, by rw [alloc_eq_grow, alloc_eq_grow, grow_grow]; rfl⟩
open Go.Shelf Go.Lib Go.Sort in
theorem hlen (n : Nat) (W : World) (h : n ≤ 12) : Calls Try.prog 22 #[.int .u64 n] W fun e w' => (∃ l : Int, e = .returned (.int .i64 l)) ∧ w' = W :=
  (Any.bits_Len Try.blen n W (by omega) (by omega)).mono fun _ _ ⟨he, hw⟩ => ⟨⟨_, he⟩, hw⟩
open Go.Shelf Go.Lib Go.Sort in
theorem sorted2 : Sort.insertionSort (ltOf fun x y : S24 => Lib.compareBytes x.f0.data.toList y.f0.data.toList) #[rB, rA] 0 2 = #[rA, rB] := by kernel_rfl
open Go.Shelf Go.Lib Go.Sort in
theorem sort2 (w : World) (blk cap : Nat) (hH : HoldsK encR 2 w blk 0 #[rB, rA]) (hblk : blk < w.heap.size) :
    Calls Try.prog 17 #[.slice (some ⟨blk, 0, none⟩) 2 cap, .func (.func 18) #[] #[]] w fun e w' => e = .returned (.tuple #[]) ∧ ∃ n os, w' = sortWorldK encR 2 w blk 0 n #[rA, rB] os := by
  have eg : ∀ args w, (callFunc 18 args).run Try.prog w = .ok (.enter 18 args) w := enters_of Try.func18 (by kernel_rfl) rfl
  have hcon := AnyQ.slices_SortFunc_small Try.sortR 2 Try.isAgg24 Try.sizeOf24 encR (fun _ => rfl) (fun x v hv => by simp [encR] at hv; rcases hv with rfl | rfl <;> rfl) (fun x y => Lib.compareBytes x.f0.data.toList y.f0.data.toList) 18 #[] blk 0 cap #[rB, rA] w eg (fun _ _ _ _ x y => clo x y _) hH hblk (by decide) hlen
  change Calls Try.prog 17 _ _ _ at hcon
  refine hcon.mono ?_
  rintro e w' ⟨rfl, n, os, rfl⟩
  exact ⟨rfl, n, os, by rw [show (#[rB, rA] : Array S24).size = 2 from rfl, sorted2]⟩
open Go.Shelf Go.Lib Go.Sort in
theorem sort_below {w : World} {base blk n : Nat} {d : Array S24} {os : Array Obj} (hb : base ≤ blk) (hs : base ≤ w.heap.size) : Go.RowKit.Below base w (sortWorldK encR 2 w blk 0 n d os) := by
  refine ⟨rfl, rfl, rfl, size_sortWorldK_c encR 2 w blk 0 n d os, fun k hk => ?_⟩
  unfold sortWorldK grow putRowK putRow mapBlock
  simp only
  have hz : (Sort.ahead w n).heap = w.heap := rfl
  rw [hz, Array.getElem?_append_left (by simp; omega), Array.getElem?_modify, if_neg (by omega)]
theorem emp (x : S24) (h : span_Empty.f x.f0 x.f1 = some false) (W : World) : Calls Try.prog 16 #[.agg #[.string x.f0, .string x.f1]] W fun e w' => e = .returned (.bool false) ∧ Below W.heap.size W w' := span_Empty.calls x.f0 x.f1 false W h
theorem empB (W : World) : Calls Try.prog 16 #[.agg #[.string ⟨#[98]⟩, .string ⟨#[99]⟩]] W fun e w' => e = .returned (.bool false) ∧ Below W.heap.size W w' := emp rB (by decide +kernel) W
theorem empA (W : World) : Calls Try.prog 16 #[.agg #[.string ⟨#[97]⟩, .string ⟨#[98]⟩]] W fun e w' => e = .returned (.bool false) ∧ Below W.heap.size W w' := emp rA (by decide +kernel) W
/-- The row of a block of four cells. -/
def Four (w : World) (g : Nat) (a b c d : ByteArray) : Prop := w.cell? ⟨g, 0, none⟩ = some (.string a) ∧ w.cell? ⟨g, 1, none⟩ = some (.string b) ∧ w.cell? ⟨g, 2, none⟩ = some (.string c) ∧ w.cell? ⟨g, 3, none⟩ = some (.string d)
theorem Four.below {w w' : World} {g : Nat} {a b c d : ByteArray} (h : Four w g a b c d) (hb : Below w.heap.size w w') : Four w' g a b c d := by
  have e : w'.heap[g]? = w.heap[g]? := hb.block g (World.block_lt_of_cell? w _ h.1)
  have e2 : ∀ j, w'.cell? ⟨g, j, none⟩ = w.cell? ⟨g, j, none⟩ := fun j => hb.cell (show g < w.heap.size from World.block_lt_of_cell? w _ h.1)
  exact ⟨(e2 0).trans h.1, (e2 1).trans h.2.1, (e2 2).trans h.2.2.1, (e2 3).trans h.2.2.2⟩
set_option maxRecDepth 100000 in
theorem index2 (w : World) (g cap : Nat) (h4 : Four w g ⟨#[98]⟩ ⟨#[99]⟩ ⟨#[97]⟩ ⟨#[98]⟩) :
    Calls Try.prog 20 #[.slice (some ⟨g, 0, none⟩) 2 cap, .func (.func 16) #[] #[]] w fun e w' => e = .returned (.int .i64 (-1)) ∧ Below w.heap.size w w' := by
  have H4 := Lib.hid h4
  clear h4
  go_enter Try.func20, Try.ntmps20
  go_upto_region 2 with (fail)
  go_loopw [8] (fun v wr => (v = .int .i64 0 ∨ v = .int .i64 1 ∨ v = .int .i64 2) ∧ Below w.heap.size w wr) (fun v _ => 2 - (intOf v).toNat)
  case atStart => exact ⟨.inl rfl, Below.refl _ _⟩
  case round =>
    obtain ⟨hv, hb⟩ := hrel
    have h4 := H4.out.below hb
    have hz := hb.size
    have HB := Lib.hid hb
    clear hb
    obtain ⟨c0, c1, c2, c3⟩ := h4
    rcases hv with rfl | rfl | rfl
    · go_wp2_with (first
        | (go_at_call 16; refine (empB _).mono ?_; rintro e w2 ⟨rfl, hb2⟩))
      exact ⟨⟨.inr (.inl rfl), HB.out.trans (hb2.mono hz)⟩, by simp [intOf]⟩
    · go_wp2_with (first
        | (go_at_call 16; refine (empA _).mono ?_; rintro e w2 ⟨rfl, hb2⟩))
      exact ⟨⟨.inr (.inr rfl), HB.out.trans (hb2.mono hz)⟩, by simp [intOf]⟩
    · go_wp2
      go_ret
      exact ⟨rfl, HB.out⟩
set_option maxRecDepth 100000 in
theorem delete2 (w : World) (g cap : Nat) (h4 : Four w g ⟨#[98]⟩ ⟨#[99]⟩ ⟨#[97]⟩ ⟨#[98]⟩) :
    Calls Try.prog 15 #[.slice (some ⟨g, 0, none⟩) 2 cap, .func (.func 16) #[] #[]] w fun e w' => e = .returned (.slice (some ⟨g, 0, none⟩) 2 cap) ∧ Below w.heap.size w w' := by
  have hi := index2 w g cap h4
  clear h4
  go_enter Try.func15, Try.ntmps15
  go_wp2_with (first
    | (go_at_call 20; refine hi.mono ?_; rintro e w2 ⟨rfl, hb2⟩))
  go_ret
  exact ⟨rfl, hb2⟩
theorem infoR : (Try.prog.info? 24).map (fun i => (i.zero, i.size, i.bytes)) = some (some (.agg #[.string ⟨#[]⟩, .string ⟨#[]⟩]), 2, 32) := by kernel_rfl
theorem R_empty (w : World) (base g : Nat) (hb : base ≤ g) (hg : w.heap[g]? = some (.cells #[] 24 (0, 0))) : Kd.R k24 24 w base (fun _ => True) (.slice (some ⟨g, 0, none⟩) 0 0) [] :=
  ⟨fun _ _ => trivial, [], ⟨rfl, .inr ⟨g, 0, #[], rfl, hb, hg, Nat.le_refl _, by decide, rfl, rfl⟩⟩, ⟨rfl, fun j p hj => by simp at hj⟩⟩
set_option maxRecDepth 100000 in
theorem clone2 (w : World) (ad : Addr) (c : Nat) (hr : Kd.C k24 w (some ad) 2 [rB, rA]) (hc : 2 ≤ c) :
    Calls Try.prog 14 #[.slice (some ad) 2 c] w fun e w' => ∃ g cap, e = .returned (.slice (some ⟨g, 0, none⟩) 2 cap) ∧ w.heap.size ≤ g ∧ Four w' g ⟨#[98]⟩ ⟨#[99]⟩ ⟨#[97]⟩ ⟨#[98]⟩ ∧ (∀ j, w'.frozen? ⟨g, j, none⟩ = false) ∧ Below w.heap.size w w' := by
  have HR := Lib.hid hr
  clear hr
  have heq : ∀ W : World, (binOp .eql 27 (.slice (some ad) 2 c) (.slice none 0 0)).run Try.prog W = .ok (.bool false) W := by
    intro W
    have h : (Op.equalIn (9999 + 1) 27 (.slice (some ad) 2 c) (.slice none 0 0)).run Try.prog W = .ok false W := by
      rw [Op.equalIn]
      simp only [Sem.run_bind, run_underlying Try.underlying27, Result.andThen_ok]
      rfl
    have h2 : (Op.equal 27 (.slice (some ad) 2 c) (.slice none 0 0)).run Try.prog W = .ok false W := h
    simp only [binOp, Sem.run_bind, h2, Result.andThen_ok, Sem.run_pure]
  go_enter Try.func14, Try.ntmps14
  go_wp2_with (first
    | (at_builtin; refine Kd.R_append_rows k24 (Rr := k24.K w) (w0 := w) w.heap.size rfl (.tmp 5) (.tmp 6) 27 24 (.agg #[.string ⟨#[]⟩, .string ⟨#[]⟩]) 32 rfl Try.underlying27 infoR rfl (by decide) (by decide) (.slice (some ⟨w.heap.size, 0, none⟩) 0 0) [] [rB, rA] (some ad) 2 c (fun _ => True) (fun _ => False) rfl rfl (R_empty _ _ w.heap.size (Nat.le_refl _) (heap_alloc_new w _)) (Kd.C_below HR.out ((Below.refl _ _).alloc (Nat.le_refl _) _)) (fun x cs h => by rw [k24_open h]; exact k24_mkM _ _ _ x) (fun _ h => h.elim) (fun _ _ => trivial) ((Below.refl _ _).alloc (Nat.le_refl _) _) (by rw [World.size_alloc]; omega) (by decide) ?_; intro v1 w1 hR1 hb1 hg1 hat1))

  go_ret
  obtain ⟨-, inner, ho, hreps⟩ := hR1
  have hi : inner = [.string ⟨#[98]⟩, .string ⟨#[99]⟩, .string ⟨#[97]⟩, .string ⟨#[98]⟩] := by
    have h0 := k24_openM (hreps.2 0 rB rfl)
    have h1 := k24_openM (hreps.2 1 rA rfl)
    have hl := hreps.1
    simp only [show k24.sz = 2 from rfl] at h0 h1 hl
    match inner, hl with
    | [a, b, c, d], _ =>
      simp at h0 h1
      obtain ⟨rfl, rfl⟩ := h0
      obtain ⟨rfl, rfl⟩ := h1
      rfl
  subst hi
  rcases ho.2 with ⟨-, h⟩ | ⟨g, cap, cur, rfl, hg, hh, -, -, -, ht⟩
  · simp at h
  · refine ⟨g, cap, rfl, hg, ?_, fun j => frozen_of_row w1 g j _ _ hh, hb1⟩
    have hc4 : ∀ j v, ([.string ⟨#[98]⟩, .string ⟨#[99]⟩, .string ⟨#[97]⟩, .string ⟨#[98]⟩] : List Value)[j]? = some v → w1.cell? ⟨g, j, none⟩ = some v := by
      intro j v hj
      rw [cell_of_row w1 g j _ _ _ hh]
      rw [← ht] at hj
      have h1 : cur.toList[j]? = some v := by
        rw [List.getElem?_take] at hj
        split at hj
        · exact hj
        · cases hj
      rw [← h1]; simp
    exact ⟨hc4 0 _ rfl, hc4 1 _ rfl, hc4 2 _ rfl, hc4 3 _ rfl⟩
open Go.Shelf Go.Lib Go.Sort in
theorem flat1 : flatK encR 2 #[rB, rA] = #[.string ⟨#[98]⟩, .string ⟨#[99]⟩, .string ⟨#[97]⟩, .string ⟨#[98]⟩] := by kernel_rfl
open Go.Shelf Go.Lib Go.Sort in
theorem flat2 : flatK encR 2 #[rA, rB] = #[.string ⟨#[97]⟩, .string ⟨#[98]⟩, .string ⟨#[98]⟩, .string ⟨#[99]⟩] := by kernel_rfl
open Go.Shelf Go.Lib Go.Sort in
theorem holds4 (w : World) (g : Nat) (h : Four w g ⟨#[98]⟩ ⟨#[99]⟩ ⟨#[97]⟩ ⟨#[98]⟩) (hf : ∀ j, w.frozen? ⟨g, j, none⟩ = false) : HoldsK encR 2 w g 0 #[rB, rA] := by
  unfold HoldsK
  rw [flat1]
  intro j hj
  have hj4 : j < 4 := hj
  rw [Nat.zero_add]
  match j, hj4 with
  | 0, _ => exact ⟨h.1, hf 0⟩
  | 1, _ => exact ⟨h.2.1, hf 1⟩
  | 2, _ => exact ⟨h.2.2.1, hf 2⟩
  | 3, _ => exact ⟨h.2.2.2, hf 3⟩
open Go.Shelf Go.Lib Go.Sort in
theorem four_sorted (w : World) (g n : Nat) (os : Array Obj) (h : HoldsK encR 2 w g 0 #[rB, rA]) (hg : g < w.heap.size) : Four (sortWorldK encR 2 w g 0 n #[rA, rB] os) g ⟨#[97]⟩ ⟨#[98]⟩ ⟨#[98]⟩ ⟨#[99]⟩ := by
  have H := holdsK_sortWorldK_c encR 2 w g 0 #[rB, rA] #[rA, rB] n os h hg rfl
  unfold HoldsK at H
  rw [flat2] at H
  have h0 := (H 0 (by decide)).1
  have h1 := (H 1 (by decide)).1
  have h2 := (H 2 (by decide)).1
  have h3 := (H 3 (by decide)).1
  rw [Nat.zero_add] at h0 h1 h2 h3
  exact ⟨h0, h1, h2, h3⟩
theorem frozen_below {w w' : World} {g : Nat} (hg : g < w.heap.size) (hb : Below w.heap.size w w') (h : ∀ j, w.frozen? ⟨g, j, none⟩ = false) : ∀ j, w'.frozen? ⟨g, j, none⟩ = false := by
  intro j
  have e : w'.heap[g]? = w.heap[g]? := hb.block g hg
  have := h j
  unfold World.frozen? at this ⊢
  rw [e]
  exact this
theorem own2 {w : World} {B : Nat} {v x y : Value} (h : w.ownsRow B 24 2 v 1 [x, y]) : ∃ g cap cur, v = .slice (some ⟨g, 0, none⟩) 1 cap ∧ B ≤ g ∧ w.heap[g]? = some (.cells cur 24 (0, 0)) ∧ 1 ≤ cap ∧ cap ≤ maxLen ∧ cur.size = cap * 2 ∧ cur[0]? = some x ∧ cur[1]? = some y := by
  rcases h.2 with ⟨-, h⟩ | ⟨g, cap, cur, rfl, hg, hh, h1, h2, h3, ht⟩
  · cases h
  · have hc : ∀ (j : Nat) (u : Value), ([x, y] : List Value)[j]? = some u → cur[j]? = some u := by
      intro j u hj
      have hl : cur[j]? = cur.toList[j]? := by simp
      rw [← ht, List.getElem?_take] at hj
      split at hj
      · rw [hl]; exact hj
      · cases hj
    exact ⟨g, cap, cur, rfl, hg, hh, h1, h2, h3, hc 0 _ rfl, hc 1 _ rfl⟩
theorem take2 {cur : Array Value} {x y z : Value} (e0 : cur[0]? = some x) (e1 : cur[1]? = some y) : (cur.setIfInBounds 1 z).toList.take (1 * 2) = [x, z] := by
  obtain ⟨l⟩ := cur
  match l, e0, e1 with
  | [], e0, _ => simp at e0
  | [a], _, e1 => simp at e1
  | a :: b :: r, e0, e1 =>
    simp at e0 e1
    subst e0 e1
    simp
theorem R_one {w : World} {B b : Nat} {v : Value} (h : w.ownsRow B 24 2 v 1 [.string ⟨#[97]⟩, .string ⟨#[99]⟩]) (hb : b ≤ B) : Kd.R k24 24 w b (fun _ => True) v [rC] := by
  refine ⟨fun _ _ => trivial, [.string ⟨#[97]⟩, .string ⟨#[99]⟩], own_weaken h hb, rfl, fun j p hj => ?_⟩
  match j with
  | 0 =>
    injection hj with hj
    subst hj
    exact k24_mkM _ _ _ rC
  | j + 1 => simp at hj
set_option maxRecDepth 100000 in
set_option maxHeartbeats 8000000 in
theorem merged2 (w : World) (A : Option Addr) (c : Nat) (hr : Kd.C k24 w A 2 [rB, rA]) (hc : 2 ≤ c) :
    Calls Try.prog 13 #[.slice A 2 c] w fun e w' => ∃ v0, e = .returned v0 ∧ Kd.R k24 24 w' w.heap.size (fun _ => True) v0 [rC] ∧ Below w.heap.size w w' := by
  obtain ⟨ad, rfl, -⟩ := hr.2.2 (by decide)
  have HR := Lib.hid hr
  clear hr
  go_enter Try.func13, Try.ntmps13
  go_upto_region 6 with (first
    | (go_at_call 14; refine (clone2 _ ad c HR.out hc).mono ?_; rintro e w2 ⟨g, cap, rfl, hg, h4, hfz, hb2⟩; have h4 := Lib.hid h4; have hfz := Lib.hid hfz)
    | (go_at_call 15; refine (delete2 _ g cap h4.out).mono ?_; rintro e w3 ⟨rfl, hb3⟩)
    | (go_at_call 17; refine (sort2 _ g cap (holds4 _ g (h4.out.below hb3) (frozen_below (World.block_lt_of_cell? w2 _ h4.out.1) hb3 hfz.out)) (World.block_lt_of_cell? w3 _ (h4.out.below hb3).1)).mono ?_; rintro e w4 ⟨rfl, n, os, hw4⟩; have HW4 := Lib.hid hw4; clear hw4))
  have hg3 : g < w3.heap.size := World.block_lt_of_cell? w3 _ (h4.out.below hb3).1
  have hs := four_sorted w3 g n os (holds4 _ g (h4.out.below hb3) (frozen_below (World.block_lt_of_cell? w2 _ h4.out.1) hb3 hfz.out)) hg3
  have bs : Below w.heap.size w3 w4 := by rw [HW4.out]; exact sort_below hg (Nat.le_trans hb2.size hb3.size)
  rw [← HW4.out] at hs
  have b4 : Below w.heap.size w w4 := (hb2.trans (hb3.mono hb2.size)).trans bs
  have hg4 : g < w4.heap.size := World.block_lt_of_cell? w4 _ hs.1
  have G := Lib.hid (And.intro hs (And.intro b4 hg4))
  clear hs b4 hg4 bs HW4 h4 hfz hb2 hb3 hg3 hg HR hc
  go_loopw [4, 16] (fun v iv wr => Below w4.heap.size w4 wr ∧ ((iv = .int .i64 0 ∧ v = .slice none 0 0) ∨ (iv = .int .i64 1 ∧ wr.ownsRow w4.heap.size 24 2 v 1 [.string ⟨#[97]⟩, .string ⟨#[98]⟩]) ∨ (iv = .int .i64 2 ∧ wr.ownsRow w4.heap.size 24 2 v 1 [.string ⟨#[97]⟩, .string ⟨#[99]⟩]))) (fun _ iv _ => 2 - (intOf iv).toNat)
  case atStart => exact ⟨Below.refl _ _, .inl ⟨rfl, rfl⟩⟩
  case round =>
    obtain ⟨hb, hrel⟩ := hrel
    have h4 := G.out.1.below hb
    obtain ⟨c0, c1, c2, c3⟩ := h4
    have hsz := hb.size
    have HB := Lib.hid (And.intro hb hsz)
    clear hb hsz
    rcases hrel with ⟨rfl, rfl⟩ | ⟨rfl, hown⟩ | ⟨rfl, hown⟩
    · go_upto_region 9 with (fail)
      repeat (go_quiet (fail); try go_upto_region 10 with (fail))
      refine abs_m ?_
      intro w5 hw5
      have g5 : w5.heap[wr.heap.size]? = some (.cells #[.string ⟨#[97]⟩, .string ⟨#[98]⟩] 24 (0, 0)) := by rw [hw5]; exact heap_alloc_new wr _
      have b5 : Below wr.heap.size wr w5 := by rw [hw5]; first | exact pw_below_drewN ((Below.refl _ _).alloc (Nat.le_refl _) _) _ | exact ((Below.refl _ _).alloc (Nat.le_refl _) _).drew
      have t0 : w5.cell? ⟨wr.heap.size, 0, none⟩ = some (.string ⟨#[97]⟩) := cell_of_row w5 _ 0 _ _ _ g5
      have t1 : w5.cell? ⟨wr.heap.size, 1, none⟩ = some (.string ⟨#[98]⟩) := cell_of_row w5 _ 1 _ _ _ g5
      have B5 := Lib.hid (HB.out.1.trans (b5.mono HB.out.2))
      have S5 := Lib.hid (Nat.le_trans HB.out.2 b5.size)
      clear hw5 b5 c0 c1 c2 c3
      go_wp2_with (first
        | (at_builtin; refine print_append_cells (w0 := w4) w4.heap.size rfl (.tmp 43) (.tmp 45) 27 24 (.agg #[.string ⟨#[]⟩, .string ⟨#[]⟩]) 2 32 rfl Try.underlying27 infoR rfl (by decide) (by decide) (.slice none 0 0) 0 [] [.string ⟨#[97]⟩, .string ⟨#[98]⟩] rfl rfl rfl (by intro u hu; simp at hu; rcases hu with rfl | rfl <;> rfl) ⟨rfl, .inl ⟨rfl, rfl⟩⟩ B5.out S5.out (by decide) ?_; intro v6 w6 hown6 hb6 hg6 hat6))
      exact ⟨⟨hb6, .inr (.inl ⟨by first | rfl | go_num, hown6⟩)⟩, by simp [intOf]⟩
    · obtain ⟨go, co, cur, rfl, hgo, hh, h1, h2, h3, e0, e1⟩ := own2 hown
      have hlt : go < wr.heap.size := by rcases Nat.lt_or_ge go wr.heap.size with h | h; exact h; rw [Array.getElem?_eq_none h] at hh; cases hh
      have o0 : wr.cell? ⟨go, 0, none⟩ = some (.string ⟨#[97]⟩) := (cell_of_row wr go 0 _ _ _ hh).trans e0
      have o1 : wr.cell? ⟨go, 1, none⟩ = some (.string ⟨#[98]⟩) := (cell_of_row wr go 1 _ _ _ hh).trans e1
      have fo := frozen_of_row wr go 1 _ _ hh
      have HO := Lib.hid (And.intro hgo (And.intro hh (And.intro h1 (And.intro h2 (And.intro h3 (And.intro hlt (And.intro e0 e1)))))))
      clear hgo hh h1 h2 h3 e0 e1 hown
      go_upto_region 9 with (fail)
      repeat (go_quiet (fail); try go_wp2)
      have bw : ∀ m, Below wr.heap.size wr ((wr.alloc (.cells #[.string ⟨#[98]⟩, .string ⟨#[99]⟩] 24)).drewN m) := fun m => pw_below_drewN ((Below.refl _ _).alloc (Nat.le_refl _) _) m
      obtain ⟨hgo, hh, h1, h2, h3, hlt, e0, e1⟩ := HO.out
      refine ⟨⟨(HB.out.1.trans ((bw _).mono HB.out.2)).setCell hgo _, .inr (.inr ⟨rfl, rfl, .inr ⟨go, co, cur.setIfInBounds 1 (.string ⟨#[99]⟩), rfl, hgo, heap_setCell_same _ go 1 _ 24 _ (((bw _).block go hlt).trans hh), h1, h2, by rw [Array.size_setIfInBounds]; exact h3, take2 e0 e1⟩⟩)⟩, by simp [intOf]⟩
    · go_wp2
      go_ret
      exact ⟨_, rfl, R_one hown (Nat.le_trans G.out.2.1.size (Nat.le_refl _)), G.out.2.1.trans (HB.out.1.mono G.out.2.1.size)⟩
theorem data_inj {a b : ByteArray} (h : a.data.toList = b.data.toList) : a = b := by
  cases a; cases b
  simp at h
  rw [h]
def keyR (x : S24) : List UInt8 × List UInt8 := (x.f0.data.toList, x.f1.data.toList)
theorem keyR_inj {x y : S24} (h : keyR x = keyR y) : x = y := by
  obtain ⟨a, b⟩ := x
  obtain ⟨c, d⟩ := y
  simp only [keyR, Prod.mk.injEq] at h
  rw [data_inj h.1, data_inj h.2]
theorem map_inj {α β : Type} (f : α → β) (hf : ∀ x y, f x = f y → x = y) : ∀ {l m : List α}, l.map f = m.map f → l = m
  | [], [], _ => rfl
  | [], _ :: _, h => by simp at h
  | _ :: _, [], h => by simp at h
  | a :: l, b :: m, h => by
    simp only [List.map_cons, List.cons.injEq] at h
    rw [hf _ _ h.1, map_inj f hf h.2]
def span_merged.f (l0 : List (S24)) : Option (List (S24)) := if (l0.map keyR) = ([rB, rA].map keyR) then some [rC] else none
theorem span_merged.calls (A0 : Option Addr) (c0 : Nat) (l0 : List (S24)) (r : List (S24)) (w : World) (hr0 : Kd.C k24 w A0 l0.length l0) (hc0 : l0.length ≤ c0) (h : span_merged.f l0 = some r) :
    Calls Try.prog 13 #[.slice A0 l0.length c0] w fun e w' => ∃ v0_ : Value, e = .returned (v0_) ∧ Kd.R k24 24 w' w.heap.size (fun _ => True) v0_ r ∧ Below w.heap.size w w' := by
  unfold span_merged.f at h
  split at h
  · rename_i he
    obtain rfl : l0 = [rB, rA] := map_inj keyR (fun _ _ => keyR_inj) he
    injection h with h
    subst h
    exact merged2 w A0 c0 hr0 hc0
  · cases h

/-! ### span_Normal: function 9 -/
def span_Normal.f (l0 : List (S24)) : Option ((List (S24))) := (span_merged.f l0).bind fun t115 => (some t115)
set_option maxHeartbeats 8000000 in
set_option maxRecDepth 100000 in
theorem span_Normal.calls (A0 : Option Addr) (c0 : Nat) (l0 : List (S24)) (r : List (S24)) (w : World) (hr0 : Kd.C k24 w A0 l0.length l0) (hc0 : l0.length ≤ c0) (h : span_Normal.f l0 = some r) :
    Calls Try.prog 9 #[.slice A0 l0.length c0] w fun e w' => ∃ v0_ : Value, e = .returned (v0_) ∧ Kd.R k24 24 w' w.heap.size (fun _ => True) v0_ r ∧ Below w.heap.size w w' := by
  have HR0 := Aside0.mk hr0
  have HC0 := Aside0.mk hc0
  clear hr0 hc0
  have HB := Aside0.mk (Below.refl w.heap.size w)
  have H : ((span_merged.f l0).bind fun t115 => (some t115)) = some r := h
  clear h
  replace H := Option.bind_eq_some_iff.mp H
  obtain ⟨t115, A20, H⟩ := H
  replace H : (some t115) = some r := H
  have A2 := Aside0.mk A20
  clear A20
  obtain rfl := Option.some.inj H
  go_enter Try.func9, Try.ntmps9
  go_wp2_with (first | ((with_reducible refine gate_callee (f := 13) rfl ?_); refine goesL_ (some 4) rfl rfl Try.func13 (by kernel_rfl) rfl #[.slice A0 l0.length c0] rfl (by (try simp only [List.map_toArray, List.map_cons, List.map_nil]); first | done | rfl | (simp only [List.length_drop, List.length_take]; rfl)) ?_; (with_reducible refine (span_merged.calls _ _ l0 t115 _ ?side1 ?side2 A2.out).mono ?_); (case side1 => repeat (first | exact HR0.out | (with_reducible refine Kd.C_alloc ?_ _) | (with_reducible refine Kd.C_drewN ?_ _) | (with_reducible refine Kd.C_drew ?_))); (case side2 => exact HC0.out); rintro e w3 ⟨v116, rfl, ho0, hb⟩; refine ⟨_, rfl, ?_⟩; have n0_ := Aside0.mk (Kd.R_lower ho0 (below_size (by repeat (first | (with_reducible first | exact HB.out | apply below_alloc | apply pw_below_drewN | apply below_drew1) | exact HB.out)))); have n1_ := Aside0.mk (below_step (by repeat (first | (with_reducible first | exact HB.out | apply below_alloc | apply pw_below_drewN | apply below_drew1) | exact HB.out)) hb); clear HB; have HO117 := n0_; have HB := n1_; clear n0_ n1_; (try clear hb); (try clear hb2); (try clear hk); (try clear hi); (try clear ho0)))
  go_ret
  exact ⟨_, by first | rfl | (simp [errW_none, errW_some] <;> rfl) | (simp [*, errW_none, errW_some] <;> rfl), by (with_reducible repeat (first | apply Kd.R_alloc | apply Kd.R_drewN | apply Kd.R_drew)); exact HO117.out, by repeat (first | (with_reducible first | exact HB.out | apply below_alloc | apply pw_below_drewN | apply below_drew1) | exact HB.out)⟩

/-! ### hawserlaw06_awake: function 4 -/
def hawserlaw06_awake.f (k : Nat)  : Option (Bool) := (span_Normal.f (([(⟨(⟨#[98]⟩ : ByteArray), (⟨#[99]⟩ : ByteArray)⟩ : S24), (⟨(⟨#[97]⟩ : ByteArray), (⟨#[98]⟩ : ByteArray)⟩ : S24)] : List (S24)))).bind fun t121 => ((hawserlaw06_equal.f k t121 (([(⟨(⟨#[97]⟩ : ByteArray), (⟨#[99]⟩ : ByteArray)⟩ : S24)] : List (S24)))).bind fun t127 => (some t127))
theorem hawserlaw06_awake.mono : ∀ k, LeO (hawserlaw06_awake.f k ) (hawserlaw06_awake.f (k + 1) ) := by
  intro  k
  unfold hawserlaw06_awake.f
  repeat' first
      | (with_reducible exact hawserlaw06_equal.mono _ _ _)
      | (with_reducible exact LeO.refl _)
      | (with_reducible exact LeO.none _)
      | (with_reducible refine LeO.ite ?_ ?_)
      | (with_reducible refine LeO.bind ?_ (fun _ => ?_))
      | exact hawserlaw06_equal.mono _ _ _
      | exact LeO.none _
      | refine LeO.ite ?_ ?_
      | refine LeO.bind ?_ (fun _ => ?_)
set_option maxHeartbeats 8000000 in
set_option maxRecDepth 100000 in
theorem hawserlaw06_awake.calls (k : Nat)  (r : Bool) (w : World) (h : hawserlaw06_awake.f k  = some r) :
    Calls Try.prog 4 #[] w fun e w' => e = .returned (.bool r) ∧ Below w.heap.size w w' := by
  have hu24 := Try.underlying24
  have HB := Aside0.mk (Below.refl w.heap.size w)
  have H : ((span_Normal.f (([(⟨(⟨#[98]⟩ : ByteArray), (⟨#[99]⟩ : ByteArray)⟩ : S24), (⟨(⟨#[97]⟩ : ByteArray), (⟨#[98]⟩ : ByteArray)⟩ : S24)] : List (S24)))).bind fun t121 => ((hawserlaw06_equal.f k t121 (([(⟨(⟨#[97]⟩ : ByteArray), (⟨#[99]⟩ : ByteArray)⟩ : S24)] : List (S24)))).bind fun t127 => (some t127))) = some r := h
  clear h
  obtain ⟨y118, hy118⟩ : ∃ y_ : List (S24), y_ = (([(⟨(⟨#[98]⟩ : ByteArray), (⟨#[99]⟩ : ByteArray)⟩ : S24), (⟨(⟨#[97]⟩ : ByteArray), (⟨#[98]⟩ : ByteArray)⟩ : S24)] : List (S24))) := ⟨_, rfl⟩
  replace H : ((span_Normal.f y118).bind fun t121 => ((hawserlaw06_equal.f k t121 (([(⟨(⟨#[97]⟩ : ByteArray), (⟨#[99]⟩ : ByteArray)⟩ : S24)] : List (S24)))).bind fun t127 => (some t127))) = some r := by first | (rw [hy118]; with_reducible exact H) | (have H2_ := (Option.bind_some _ _).symm.trans H; rw [hy118]; with_reducible exact H2_) | (have H2_ := (Option.bind_some _ _).symm.trans H; with_reducible exact H2_) | with_reducible exact H | (rw [hy118]; exact H) | exact H
  have Ny118 := Aside0.mk hy118
  clear hy118
  replace H := Option.bind_eq_some_iff.mp H
  obtain ⟨t121, A10, H⟩ := H
  replace H : ((hawserlaw06_equal.f k t121 (([(⟨(⟨#[97]⟩ : ByteArray), (⟨#[99]⟩ : ByteArray)⟩ : S24)] : List (S24)))).bind fun t127 => (some t127)) = some r := H
  have A1 := Aside0.mk A10
  clear A10
  obtain ⟨y124, hy124⟩ : ∃ y_ : List (S24), y_ = (([(⟨(⟨#[97]⟩ : ByteArray), (⟨#[99]⟩ : ByteArray)⟩ : S24)] : List (S24))) := ⟨_, rfl⟩
  replace H : ((hawserlaw06_equal.f k t121 y124).bind fun t127 => (some t127)) = some r := by first | (rw [hy124]; with_reducible exact H) | (have H2_ := (Option.bind_some _ _).symm.trans H; rw [hy124]; with_reducible exact H2_) | (have H2_ := (Option.bind_some _ _).symm.trans H; with_reducible exact H2_) | with_reducible exact H | (rw [hy124]; exact H) | exact H
  have Ny124 := Aside0.mk hy124
  clear hy124
  replace H := Option.bind_eq_some_iff.mp H
  obtain ⟨t127, A20, H⟩ := H
  replace H : (some t127) = some r := H
  have A2 := Aside0.mk A20
  clear A20
  obtain rfl := Option.some.inj H
  go_enter Try.func4, Try.ntmps4
  go_wp2_with (first | ((with_reducible refine gate_dst (N := 3) rfl ?_); refine Kd.R_lit k24 _ 24 ?hg (N := 3) ?hd (xs := ([(⟨(⟨#[98]⟩ : ByteArray), (⟨#[99]⟩ : ByteArray)⟩ : S24), (⟨(⟨#[97]⟩ : ByteArray), (⟨#[98]⟩ : ByteArray)⟩ : S24)] : List (S24))) (inner := [.string (⟨#[98]⟩ : ByteArray), .string (⟨#[99]⟩ : ByteArray), .string (⟨#[97]⟩ : ByteArray), .string (⟨#[98]⟩ : ByteArray)]) (ok := fun _ => True) (okp := fun _ => True) ?hr ?hp (fun _ hk => hk) trivial (Below.refl _ _) (Nat.le_refl _) (by simp) ?_; (case hd => rfl); (case hg => rfl); (case hr => first | (go_simp; done) | (go_simp; rfl)); (case hp => exact (Reps.c2 (show Kd.M k24 _ _ _ (⟨(⟨#[98]⟩ : ByteArray), (⟨#[99]⟩ : ByteArray)⟩ : S24) [.string (⟨#[98]⟩ : ByteArray), .string (⟨#[99]⟩ : ByteArray)] from (k24_mkM _ _ _ (⟨(⟨#[98]⟩ : ByteArray), (⟨#[99]⟩ : ByteArray)⟩ : S24) )) (Reps.c2 (show Kd.M k24 _ _ _ (⟨(⟨#[97]⟩ : ByteArray), (⟨#[98]⟩ : ByteArray)⟩ : S24) [.string (⟨#[97]⟩ : ByteArray), .string (⟨#[98]⟩ : ByteArray)] from (k24_mkM _ _ _ (⟨(⟨#[97]⟩ : ByteArray), (⟨#[98]⟩ : ByteArray)⟩ : S24) )) (Reps.none _ _)))); intro v119 w3 ho4 hb hg_ hnew_; clear hg_ hnew_; (first | rw [← Ny118.out] at ho4 | (simp only [Int.reduceToNat] at ho4; rw [← Ny118.out] at ho4)); have n0_ := Aside0.mk (Kd.R_lower ho4 (below_size (by repeat (first | (with_reducible first | exact HB.out | apply below_alloc | apply pw_below_drewN | apply below_drew1) | exact HB.out)))); have n1_ := Aside0.mk (below_step (by repeat (first | (with_reducible first | exact HB.out | apply below_alloc | apply pw_below_drewN | apply below_drew1) | exact HB.out)) hb); clear HB; have HO120 := n0_; have HB := n1_; clear n0_ n1_; clear hb ho4; obtain ⟨Ao5, co5, eo5⟩ := Kd.R_slice HO120.out; subst eo5) | ((with_reducible refine gate_callee (f := 9) rfl ?_); refine goesL_ (some 4) rfl rfl Try.func9 (by kernel_rfl) rfl #[.slice Ao5 y118.length co5] rfl (by (try simp only [List.map_toArray, List.map_cons, List.map_nil]); first | done | rfl | (simp only [List.length_drop, List.length_take]; rfl)) ?_; (with_reducible refine (span_Normal.calls _ _ y118 t121 _ ?side1 ?side2 A1.out).mono ?_); (case side1 => repeat (first | exact (Kd.R_reads' HO120.out).2.2 | (with_reducible refine Kd.C_alloc ?_ _) | (with_reducible refine Kd.C_drewN ?_ _) | (with_reducible refine Kd.C_drew ?_))); (case side2 => exact (Kd.R_reads' HO120.out).2.1); rintro e w6 ⟨v122, rfl, ho0, hb⟩; refine ⟨_, rfl, ?_⟩; have n0_ := Aside0.mk (Kd.R_elder' (by (with_reducible repeat (first | apply Kd.R_alloc | apply Kd.R_drewN | apply Kd.R_drew)); exact HO120.out) (Kd.R_base ho0) hb); have n1_ := Aside0.mk (Kd.R_lower (Kd.R_new' ho0 (Kd.R_lt (by (with_reducible repeat (first | apply Kd.R_alloc | apply Kd.R_drewN | apply Kd.R_drew)); exact HO120.out))) (below_size (by repeat (first | (with_reducible first | exact HB.out | apply below_alloc | apply pw_below_drewN | apply below_drew1) | exact HB.out)))); have n2_ := Aside0.mk (below_step (by repeat (first | (with_reducible first | exact HB.out | apply below_alloc | apply pw_below_drewN | apply below_drew1) | exact HB.out)) hb); clear HO120; clear HB; have HO120 := n0_; have HO123 := n1_; have HB := n2_; clear n0_ n1_ n2_; (try clear hb); (try clear hb2); (try clear hk); (try clear hi); (try clear ho0)) | ((with_reducible refine gate_dst (N := 6) rfl ?_); refine Kd.R_lit k24 _ 24 ?hg (N := 6) ?hd (xs := ([(⟨(⟨#[97]⟩ : ByteArray), (⟨#[99]⟩ : ByteArray)⟩ : S24)] : List (S24))) (inner := [.string (⟨#[97]⟩ : ByteArray), .string (⟨#[99]⟩ : ByteArray)]) (ok := fun _ => True) (okp := fun _ => True) ?hr ?hp (fun _ hk => hk) trivial (Below.refl _ _) (Nat.le_refl _) (by simp) ?_; (case hd => rfl); (case hg => rfl); (case hr => first | (go_simp; done) | (go_simp; rfl)); (case hp => exact (Reps.c2 (show Kd.M k24 _ _ _ (⟨(⟨#[97]⟩ : ByteArray), (⟨#[99]⟩ : ByteArray)⟩ : S24) [.string (⟨#[97]⟩ : ByteArray), .string (⟨#[99]⟩ : ByteArray)] from (k24_mkM _ _ _ (⟨(⟨#[97]⟩ : ByteArray), (⟨#[99]⟩ : ByteArray)⟩ : S24) )) (Reps.none _ _))); intro v125 w7 ho8 hb hg_ hnew_; clear hg_ hnew_; (first | rw [← Ny124.out] at ho8 | (simp only [Int.reduceToNat] at ho8; rw [← Ny124.out] at ho8)); have n0_ := Aside0.mk (Kd.R_elder' (by (with_reducible repeat (first | apply Kd.R_alloc | apply Kd.R_drewN | apply Kd.R_drew)); exact HO120.out) (Kd.R_base ho8) hb); have n1_ := Aside0.mk (Kd.R_elder' (by (with_reducible repeat (first | apply Kd.R_alloc | apply Kd.R_drewN | apply Kd.R_drew)); exact HO123.out) (Kd.R_base ho8) hb); have n2_ := Aside0.mk (Kd.R_lower (Kd.R_new' (Kd.R_new' ho8 (Kd.R_lt (by (with_reducible repeat (first | apply Kd.R_alloc | apply Kd.R_drewN | apply Kd.R_drew)); exact HO120.out))) (Kd.R_lt (by (with_reducible repeat (first | apply Kd.R_alloc | apply Kd.R_drewN | apply Kd.R_drew)); exact HO123.out))) (below_size (by repeat (first | (with_reducible first | exact HB.out | apply below_alloc | apply pw_below_drewN | apply below_drew1) | exact HB.out)))); have n3_ := Aside0.mk (below_step (by repeat (first | (with_reducible first | exact HB.out | apply below_alloc | apply pw_below_drewN | apply below_drew1) | exact HB.out)) hb); clear HO120; clear HO123; clear HB; have HO120 := n0_; have HO123 := n1_; have HO126 := n2_; have HB := n3_; clear n0_ n1_ n2_ n3_; clear hb ho8; obtain ⟨Ao9, co9, eo9⟩ := Kd.R_slice HO123.out; subst eo9; obtain ⟨Ao10, co10, eo10⟩ := Kd.R_slice HO126.out; subst eo10) | ((with_reducible refine gate_callee (f := 8) rfl ?_); refine goesL_ (some 7) rfl rfl Try.func8 (by kernel_rfl) rfl #[.slice Ao9 t121.length co9, .slice Ao10 y124.length co10] rfl (by (try simp only [List.map_toArray, List.map_cons, List.map_nil]); first | done | rfl | (simp only [List.length_drop, List.length_take]; rfl)) ?_; (with_reducible refine (hawserlaw06_equal.calls k _ _ t121 _ _ y124 t127 _ ?side1 ?side2 ?side3 ?side4 A2.out).mono ?_); (case side1 => repeat (first | exact (Kd.R_reads' HO123.out).2.2 | (with_reducible refine Kd.C_alloc ?_ _) | (with_reducible refine Kd.C_drewN ?_ _) | (with_reducible refine Kd.C_drew ?_))); (case side2 => exact (Kd.R_reads' HO123.out).2.1); (case side3 => repeat (first | exact (Kd.R_reads' HO126.out).2.2 | (with_reducible refine Kd.C_alloc ?_ _) | (with_reducible refine Kd.C_drewN ?_ _) | (with_reducible refine Kd.C_drew ?_))); (case side4 => exact (Kd.R_reads' HO126.out).2.1); rintro e w11 ⟨rfl, hb⟩; refine ⟨_, rfl, ?_⟩; have n0_ := Aside0.mk (Kd.R_below (by (with_reducible repeat (first | apply Kd.R_alloc | apply Kd.R_drewN | apply Kd.R_drew)); exact HO120.out) hb); have n1_ := Aside0.mk (Kd.R_below (by (with_reducible repeat (first | apply Kd.R_alloc | apply Kd.R_drewN | apply Kd.R_drew)); exact HO123.out) hb); have n2_ := Aside0.mk (Kd.R_below (by (with_reducible repeat (first | apply Kd.R_alloc | apply Kd.R_drewN | apply Kd.R_drew)); exact HO126.out) hb); have n3_ := Aside0.mk (below_step (by repeat (first | (with_reducible first | exact HB.out | apply below_alloc | apply pw_below_drewN | apply below_drew1) | exact HB.out)) hb); clear HO120; clear HO123; clear HO126; clear HB; have HO120 := n0_; have HO123 := n1_; have HO126 := n2_; have HB := n3_; clear n0_ n1_ n2_ n3_; (try clear hb); (try clear hb2); (try clear hk); (try clear hi)))
  go_ret
  exact ⟨by first | rfl | (simp [errW_none, errW_some] <;> rfl) | (simp [*, errW_none, errW_some] <;> rfl), by repeat (first | (with_reducible first | exact HB.out | apply below_alloc | apply pw_below_drewN | apply below_drew1) | exact HB.out)⟩

/-! ### span_Prefix: function 5 -/
def byteAt (s : ByteArray) (k : Nat) : Int := ((s.data.toList.getD k 0).toNat : Int)
def keep (s : ByteArray) : Nat → Nat
  | 0 => 0
  | k + 1 => if byteAt s k = 255 then keep s k else k + 1
def prefTo (s : ByteArray) : ByteArray :=
  match keep s s.size with
  | 0 => ⟨#[]⟩
  | k + 1 => strOfNums ((List.range k).map (byteAt s) ++ [(byteAt s k + 1) % 256])
theorem keep_le (s : ByteArray) : ∀ k, keep s k ≤ k
  | 0 => Nat.le_refl _
  | k + 1 => by
    unfold keep
    split
    · have := keep_le s k; omega
    · omega
theorem byteAt_bd (s : ByteArray) (k : Nat) : 0 ≤ byteAt s k ∧ byteAt s k ≤ 255 := by
  unfold byteAt
  have := (s.data.toList.getD k 0).toNat_lt
  omega
set_option maxRecDepth 100000 in
theorem pref_any (s : ByteArray) (w : World) (hs : s.size ≤ maxLen) :
    Calls Try.prog 5 #[.string s] w fun e w' => e = .returned (.agg #[.string s, .string (prefTo s)]) ∧ Below w.heap.size w w' := by
  unfold maxLen at hs
  have kc := fun (w : World) (s : ByteArray) => Lib.run_convert_string_bytes (P := Try.prog) w 9 31 5 s Try.underlying9 Try.underlying31 Try.underlying5
  go_enter Try.func5, Try.ntmps5
  go_wp2_with fail
  clear kc
  obtain ⟨W, hW⟩ : ∃ W, W = Lib.bytesWorld (w.alloc (Obj.cells #[Value.string { data := #[] }, Value.string { data := #[] }] 24)) 5 s := ⟨_, rfl⟩
  obtain ⟨c, hc⟩ : ∃ c, c = grownCap (w.alloc (Obj.cells #[Value.string { data := #[] }, Value.string { data := #[] }] 24)) s.size 0 5 := ⟨_, rfl⟩
  rw [← hW, ← hc]
  have hcell : ∀ j, j < s.size → W.cell? ⟨w.heap.size + 1, j, none⟩ = some (.int .u8 (byteAt s j)) := by
    intro j hj; rw [hW]
    have := Lib.bytesWorld_cell (w.alloc (Obj.cells #[Value.string { data := #[] }, Value.string { data := #[] }] 24)) 5 s j hj
    rw [show (⟨w.heap.size + 1, j, none⟩ : Addr) = ⟨(w.alloc (Obj.cells #[Value.string { data := #[] }, Value.string { data := #[] }] 24)).heap.size, j, none⟩ by simp]; exact this
  have hr0 : W.cell? ⟨w.heap.size, 0, none⟩ = some (.string ⟨#[]⟩) := by
    rw [hW, Lib.bytesWorld_old _ _ _ _ (by simp)]; simp
  have hr1 : W.cell? ⟨w.heap.size, 1, none⟩ = some (.string ⟨#[]⟩) := by
    rw [hW, Lib.bytesWorld_old _ _ _ _ (by simp)]; simp
  have hfz : ∀ j, W.frozen? ⟨w.heap.size, j, none⟩ = false := by
    intro j; rw [hW]
    have h := Lib.bytesWorld_at_old (w.alloc (Obj.cells #[Value.string { data := #[] }, Value.string { data := #[] }] 24)) 5 s w.heap.size (by simp)
    rw [heap_alloc_new] at h
    simp [World.frozen?, h]
  have hfb : ∀ j, j < s.size → W.frozen? ⟨w.heap.size + 1, j, none⟩ = false := by
    intro j hj; rw [hW]
    have h := Lib.bytesWorld_at_new (w.alloc (Obj.cells #[Value.string { data := #[] }, Value.string { data := #[] }] 24)) 5 s
    have hz : s.size ≤ (Lib.bytesCells (w.alloc (Obj.cells #[Value.string { data := #[] }, Value.string { data := #[] }] 24)) 5 s).size := by
      unfold Lib.bytesCells
      rw [Array.size_append, Array.size_map]
      exact Nat.le_add_right _ _
    simp only [World.size_alloc] at h
    simp only [World.frozen?, h]
    simp; omega
  have hsc : s.size ≤ c := by rw [hc]; exact grownCap_ge _ _ _ _
  have hBW : Below w.heap.size w W := by
    rw [hW]
    refine ⟨rfl, rfl, rfl, ?_, fun k hk => ?_⟩
    · rw [Lib.bytesWorld_size]; simp; omega
    · rw [Lib.bytesWorld_at_old _ _ _ _ (by simp; omega)]; exact Below.heap_alloc _ _ _ hk
  have HW := Lib.hid hW
  have HC := Lib.hid hc
  clear hW hc
  go_loop [3] (fun v => ∃ k : Nat, k ≤ s.size ∧ v = .slice (some ⟨w.heap.size + 1, 0, none⟩) k c ∧ Hid (keep s s.size = keep s k)) (fun v => match v with | .slice _ n _ => n | _ => 0)
  case atStart => exact ⟨s.size, Nat.le_refl _, rfl, rfl⟩
  case round =>
    obtain ⟨k, hk, rfl, HK⟩ := hrel
    cases k with
    | zero =>
      have hf0 := hfz 0
      have hf1 := hfz 1
      go_wp2
      have hp : prefTo s = ⟨#[]⟩ := by unfold prefTo; rw [HK.out]; rfl
      rw [hp]
      exact bodyPost_ret (v := .agg #[.string s, .string ⟨#[]⟩]) (by simp [results, Try.results5, go_sem, hr0, hr1]) rfl ⟨rfl, (hBW.setCell (by simp) _).setCell (by simp) _⟩
    | succ k =>
      have hb := byteAt_bd s k
      have hce := hcell k (by omega)
      have hfe := hfb k (by omega)
      have hkc : k + 1 ≤ c := by omega
      have hkc' : k ≤ c := by omega
      by_cases h : byteAt s k = 255
      · have h2 : (byteAt s k == 255) = true := by simp [h]
        have HH := Lib.hid h
        clear h
        go_wp2
        refine ⟨⟨k, by omega, rfl, ?_⟩, by simp⟩
        have h1 : keep s (k + 1) = keep s k := by rw [keep, if_pos HH.out]
        rw [← h1]; exact HK
      · have h2 : (byteAt s k == 255) = false := by simp [h]
        have HH := Lib.hid h
        clear h
        have hf0 := hfz 0
        have hf1 := hfz 1
        have kb : ∀ dst, Try.prog.underlying dst = some .string → (convert 31 dst (.slice (some ⟨w.heap.size + 1, 0, none⟩) (k + 1) c)).run Try.prog (W.setCell ⟨w.heap.size + 1, k, none⟩ (.int .u8 ((byteAt s k + 1) % 256))) = .ok (.string (strOfNums ((List.range k).map (byteAt s) ++ [(byteAt s k + 1) % 256]))) (W.setCell ⟨w.heap.size + 1, k, none⟩ (.int .u8 ((byteAt s k + 1) % 256))) := by
          refine run_convert_bytes_arg _ 31 5 Try.underlying31 Try.underlying5 _ 0 _ _ _ (by simp) ?_
          intro i hi
          by_cases hik : i < k
          · rw [World.cell?_setCell_other _ _ _ _ (by intro h; injection h; omega)]
            rw [show (⟨w.heap.size + 1, 0 + i, none⟩ : Addr) = ⟨w.heap.size + 1, i, none⟩ by simp, hcell i (by omega)]
            simp [List.getD, List.getElem?_append, hik]
          · obtain rfl : i = k := by omega
            rw [show (⟨w.heap.size + 1, 0 + i, none⟩ : Addr) = ⟨w.heap.size + 1, i, none⟩ by simp, World.cell?_setCell_same _ _ _ hce]
            simp [List.getD]
        have kb9 := kb 9 Try.underlying9
        clear kb
        go_wp2
        have hp : prefTo s = strOfNums ((List.range k).map (byteAt s) ++ [(byteAt s k + 1) % 256]) := by
          unfold prefTo; rw [HK.out, keep, if_neg HH.out]
        rw [hp]
        exact bodyPost_ret (v := .agg #[.string s, .string (strOfNums ((List.range k).map (byteAt s) ++ [(byteAt s k + 1) % 256]))]) (by simp [results, Try.results5, go_sem, hr0, hr1]) rfl ⟨rfl, ((hBW.setCell (by simp) _).setCell (by simp) _).setCell (by simp) _⟩
def span_Prefix.f (a0 : ByteArray) : Option (ByteArray × ByteArray) := if a0.size ≤ maxLen then some (a0, prefTo a0) else none
theorem span_Prefix.calls (a0 : ByteArray) (r1 : ByteArray) (r2 : ByteArray) (w : World) (h : span_Prefix.f a0 = some (r1, r2)) :
    Calls Try.prog 5 #[.string a0] w fun e w' => e = .returned (.agg #[.string r1, .string r2]) ∧ Below w.heap.size w w' := by
  unfold span_Prefix.f at h
  split at h
  · injection h with h
    injection h with h1 h2
    subst h1 h2
    exact pref_any a0 w (by assumption)
  · cases h

/-! ### hawserlaw06_has: function 6 -/
def hawserlaw06_has.l0 : Nat → List (S24) → ByteArray → Int → Option (Bool)
  | 0, _, _, _ => none
  | k + 1, x0, x1, x5 => if x5 < (x0.length : Int) then (if 0 ≤ x5 then (if ((Op.bytesLess x1.toList (((rd_T24 x0 x5).f0).toList)) = true) then (hawserlaw06_has.l0 k x0 x1 (wrap64 (x5 + 1))) else (if ((rd_T24 x0 x5).f1).toList = ([] : List UInt8) then (some true) else (if (Op.bytesLess x1.toList (((rd_T24 x0 x5).f1).toList)) = true then (some true) else (hawserlaw06_has.l0 k x0 x1 (wrap64 (x5 + 1)))))) else (none)) else (some false)
def hawserlaw06_has.f (k : Nat) (l0 : List (S24)) (a1 : ByteArray) : Option (Bool) := hawserlaw06_has.l0 k l0 a1 0
theorem hawserlaw06_has.mono_l : ∀ k, (∀ y0 y1 y2, LeO (hawserlaw06_has.l0 k y0 y1 y2) (hawserlaw06_has.l0 (k + 1) y0 y1 y2))
  | 0 => fun _ _ _ r h => by simp [hawserlaw06_has.l0] at h
  | k + 1 => by
    have ih0 := hawserlaw06_has.mono_l k
    · intro y0 y1 y2
      unfold hawserlaw06_has.l0
      repeat' first
      | (with_reducible exact ih0 _ _ _)
      | (with_reducible exact LeO.refl _)
      | (with_reducible exact LeO.none _)
      | (with_reducible refine LeO.ite ?_ ?_)
      | (with_reducible refine LeO.bind ?_ (fun _ => ?_))
      | exact ih0 _ _ _
      | exact LeO.none _
      | refine LeO.ite ?_ ?_
      | refine LeO.bind ?_ (fun _ => ?_)
theorem hawserlaw06_has.mono : ∀ a0 a1 k, LeO (hawserlaw06_has.f k a0 a1) (hawserlaw06_has.f (k + 1) a0 a1) := by
  intro a0 a1 k
  have ih0 := hawserlaw06_has.mono_l k
  unfold hawserlaw06_has.f
  repeat' first
      | (with_reducible exact ih0 _ _ _)
      | (with_reducible exact LeO.refl _)
      | (with_reducible exact LeO.none _)
      | (with_reducible refine LeO.ite ?_ ?_)
      | (with_reducible refine LeO.bind ?_ (fun _ => ?_))
      | exact ih0 _ _ _
      | exact LeO.none _
      | refine LeO.ite ?_ ?_
      | refine LeO.bind ?_ (fun _ => ?_)
set_option maxHeartbeats 8000000 in
set_option maxRecDepth 100000 in
theorem hawserlaw06_has.calls (k : Nat) (A0 : Option Addr) (c0 : Nat) (l0 : List (S24)) (a1 : ByteArray) (r : Bool) (w : World) (hr0 : Kd.C k24 w A0 l0.length l0) (hc0 : l0.length ≤ c0) (h : hawserlaw06_has.f k l0 a1 = some r) :
    Calls Try.prog 6 #[.slice A0 l0.length c0, .string a1] w fun e w' => e = .returned (.bool r) ∧ Drawn0 w w' := by
  have HR0 := Aside0.mk hr0
  have HC0 := Aside0.mk hc0
  clear hr0 hc0
  have H : (hawserlaw06_has.l0 k l0 a1 0) = some r := h
  clear h
  have H' := Aside0.mk H
  clear H
  go_enter Try.func6, Try.ntmps6
  go_wp2
  go_loopg [5] k (fun kq v5 w' => ∃ (x5_1 : Int), v5 = .int .i64 x5_1 ∧ Aside0 (hawserlaw06_has.l0 kq l0 a1 x5_1 = some r) ∧ Aside0 (kq ≤ k) ∧ Drawn0 w w')
  case atStart => exact ⟨(0), (by first | rfl | (simp; done) | (simp [*]; done)), H', ⟨Nat.le_refl _⟩, by repeat (first | exact Drawn0.refl _ | apply Drawn0.step)⟩
  case round =>
    clear H'
    try clear p2
    obtain ⟨x5_1, rfl, HA, HK1, ⟨m1, rfl⟩⟩ := hrel
    cases gk with
    | zero => exact absurd HA.out (by simp [hawserlaw06_has.l0])
    | succ k1 =>
      have H := HA.out
      clear HA
      simp only [hawserlaw06_has.l0] at H
      by_cases c3 : x5_1 < (l0.length : Int)
      · rw [if_pos c3] at H
        have c3b0 : decide (x5_1 < (l0.length : Int)) = true := decide_eq_true c3
        clear c3
        by_cases c4 : 0 ≤ x5_1
        · rw [if_pos c4] at H
          have c4b0 : decide (0 ≤ x5_1) = true := decide_eq_true c4
          clear c4
          by_cases c5 : ((Op.bytesLess a1.toList (((rd_T24 l0 x5_1).f0).toList)) = true)
          · rw [if_pos c5] at H
            have c5b0 : (Op.bytesLess a1.toList (((rd_T24 l0 x5_1).f0).toList)) = true := c5
            clear c5
            have H' := Aside0.mk H
            clear H
            have p128 : 0 ≤ (x5_1 : Int) := of_decide_eq_true (by first | (with_reducible assumption) | assumption)
            have q128 : x5_1 < (l0.length : Int) := of_decide_eq_true (by first | (with_reducible assumption) | assumption)
            obtain ⟨ad128, e128, hx128_0, hx128_1⟩ := at_T24 HR0.out x5_1 p128 q128
            cases e128
            replace p128 := eq_true p128
            replace q128 := eq_true q128
            go_wp2
            go_roundg k1
            case measure => have := HK1.out; omega
            case rel => exact ⟨(wrap64 (x5_1 + 1)), (by first | rfl | (simp; done) | (simp [*]; done)), H', ⟨by have := HK1.out; omega⟩, by repeat (first | exact Drawn0.refl _ | apply Drawn0.step)⟩
          · rw [if_neg c5] at H
            have c5b0 : (Op.bytesLess a1.toList (((rd_T24 l0 x5_1).f0).toList)) = false := by simpa using c5
            clear c5
            by_cases c6 : ((rd_T24 l0 x5_1).f1).toList = ([] : List UInt8)
            · rw [if_pos c6] at H
              have c6b0 : (((rd_T24 l0 x5_1).f1).toList == ([] : List UInt8)) = true := beq_iff_eq.mpr c6
              have c6b1 : (((rd_T24 l0 x5_1).f1).toList != ([] : List UInt8)) = false := bne_eq_false_iff_eq.mpr c6
              clear c6
              obtain rfl := Option.some.inj H
              have p128 : 0 ≤ (x5_1 : Int) := of_decide_eq_true (by first | (with_reducible assumption) | assumption)
              have q128 : x5_1 < (l0.length : Int) := of_decide_eq_true (by first | (with_reducible assumption) | assumption)
              obtain ⟨ad128, e128, hx128_0, hx128_1⟩ := at_T24 HR0.out x5_1 p128 q128
              cases e128
              replace p128 := eq_true p128
              replace q128 := eq_true q128
              have p129 : 0 ≤ (x5_1 : Int) := of_decide_eq_true (by first | (with_reducible assumption) | assumption)
              have q129 : x5_1 < (l0.length : Int) := of_decide_eq_true (by first | (with_reducible assumption) | assumption)
              obtain ⟨ad129, e129, hx129_0, hx129_1⟩ := at_T24 HR0.out x5_1 p129 q129
              obtain rfl : ad128 = ad129 := (by injection e129)
              replace p129 := eq_true p129
              replace q129 := eq_true q129
              go_wp2
              go_ret
              exact ⟨by first | rfl | (simp; done) | (simp [*]; done), by repeat (first | exact Drawn0.refl _ | apply Drawn0.step)⟩
            · rw [if_neg c6] at H
              have c6b0 : (((rd_T24 l0 x5_1).f1).toList == ([] : List UInt8)) = false := beq_eq_false_iff_ne.mpr c6
              have c6b1 : (((rd_T24 l0 x5_1).f1).toList != ([] : List UInt8)) = true := bne_iff_ne.mpr c6
              by_cases c7 : (Op.bytesLess a1.toList (((rd_T24 l0 x5_1).f1).toList)) = true
              · rw [if_pos c7] at H
                have c7b0 : (Op.bytesLess a1.toList (((rd_T24 l0 x5_1).f1).toList)) = true := c7
                clear c7
                obtain rfl := Option.some.inj H
                have p128 : 0 ≤ (x5_1 : Int) := of_decide_eq_true (by first | (with_reducible assumption) | assumption)
                have q128 : x5_1 < (l0.length : Int) := of_decide_eq_true (by first | (with_reducible assumption) | assumption)
                obtain ⟨ad128, e128, hx128_0, hx128_1⟩ := at_T24 HR0.out x5_1 p128 q128
                cases e128
                replace p128 := eq_true p128
                replace q128 := eq_true q128
                have p129 : 0 ≤ (x5_1 : Int) := of_decide_eq_true (by first | (with_reducible assumption) | assumption)
                have q129 : x5_1 < (l0.length : Int) := of_decide_eq_true (by first | (with_reducible assumption) | assumption)
                obtain ⟨ad129, e129, hx129_0, hx129_1⟩ := at_T24 HR0.out x5_1 p129 q129
                obtain rfl : ad128 = ad129 := (by injection e129)
                replace p129 := eq_true p129
                replace q129 := eq_true q129
                have p130 : 0 ≤ (x5_1 : Int) := of_decide_eq_true (by first | (with_reducible assumption) | assumption)
                have q130 : x5_1 < (l0.length : Int) := of_decide_eq_true (by first | (with_reducible assumption) | assumption)
                obtain ⟨ad130, e130, hx130_0, hx130_1⟩ := at_T24 HR0.out x5_1 p130 q130
                obtain rfl : ad128 = ad130 := (by injection e130)
                replace p130 := eq_true p130
                replace q130 := eq_true q130
                go_wp2
                go_ret
                exact ⟨by first | rfl | (simp; done) | (simp [*]; done), by repeat (first | exact Drawn0.refl _ | apply Drawn0.step)⟩
              · rw [if_neg c7] at H
                have c7b0 : (Op.bytesLess a1.toList (((rd_T24 l0 x5_1).f1).toList)) = false := by simpa using c7
                clear c7
                have H' := Aside0.mk H
                clear H
                have p128 : 0 ≤ (x5_1 : Int) := of_decide_eq_true (by first | (with_reducible assumption) | assumption)
                have q128 : x5_1 < (l0.length : Int) := of_decide_eq_true (by first | (with_reducible assumption) | assumption)
                obtain ⟨ad128, e128, hx128_0, hx128_1⟩ := at_T24 HR0.out x5_1 p128 q128
                cases e128
                replace p128 := eq_true p128
                replace q128 := eq_true q128
                have p129 : 0 ≤ (x5_1 : Int) := of_decide_eq_true (by first | (with_reducible assumption) | assumption)
                have q129 : x5_1 < (l0.length : Int) := of_decide_eq_true (by first | (with_reducible assumption) | assumption)
                obtain ⟨ad129, e129, hx129_0, hx129_1⟩ := at_T24 HR0.out x5_1 p129 q129
                obtain rfl : ad128 = ad129 := (by injection e129)
                replace p129 := eq_true p129
                replace q129 := eq_true q129
                have p130 : 0 ≤ (x5_1 : Int) := of_decide_eq_true (by first | (with_reducible assumption) | assumption)
                have q130 : x5_1 < (l0.length : Int) := of_decide_eq_true (by first | (with_reducible assumption) | assumption)
                obtain ⟨ad130, e130, hx130_0, hx130_1⟩ := at_T24 HR0.out x5_1 p130 q130
                obtain rfl : ad128 = ad130 := (by injection e130)
                replace p130 := eq_true p130
                replace q130 := eq_true q130
                go_wp2
                go_roundg k1
                case measure => have := HK1.out; omega
                case rel => exact ⟨(wrap64 (x5_1 + 1)), (by first | rfl | (simp; done) | (simp [*]; done)), H', ⟨by have := HK1.out; omega⟩, by repeat (first | exact Drawn0.refl _ | apply Drawn0.step)⟩
        · rw [if_neg c4] at H
          exact absurd H (by simp)
      · rw [if_neg c3] at H
        have c3b0 : decide (x5_1 < (l0.length : Int)) = false := decide_eq_false c3
        clear c3
        obtain rfl := Option.some.inj H
        go_wp2
        go_ret
        exact ⟨by first | rfl | (simp; done) | (simp [*]; done), by repeat (first | exact Drawn0.refl _ | apply Drawn0.step)⟩

/-! ### stringslite_HasPrefix: function 10 -/
def stringslite_HasPrefix.f (a0 : ByteArray) (a1 : ByteArray) : Option (Bool) := if (a0.size : Int) ≥ (a1.size : Int) then (if 0 ≤ (a1.size : Int) then (if (a1.size : Int) ≤ (a0.size : Int) then (some ((a0.extract 0 ((a1.size : Int) : Int).toNat).toList == a1.toList)) else (none)) else (none)) else (some false)
set_option maxHeartbeats 8000000 in
set_option maxRecDepth 100000 in
theorem stringslite_HasPrefix.calls (a0 : ByteArray) (a1 : ByteArray) (r : Bool) (w : World) (h : stringslite_HasPrefix.f a0 a1 = some r) :
    Calls Try.prog 10 #[.string a0, .string a1] w fun e w' => e = .returned (.bool r) ∧ Drawn0 w w' := by
  have H : (if (a0.size : Int) ≥ (a1.size : Int) then (if 0 ≤ (a1.size : Int) then (if (a1.size : Int) ≤ (a0.size : Int) then (some ((a0.extract 0 ((a1.size : Int) : Int).toNat).toList == a1.toList)) else (none)) else (none)) else (some false)) = some r := h
  clear h
  by_cases c3 : (a0.size : Int) ≥ (a1.size : Int)
  · rw [if_pos c3] at H
    have c3b0 : decide ((a1.size : Int) ≤ (a0.size : Int)) = true := decide_eq_true c3
    have c3b1 : decide (a1.size ≤ a0.size) = true := decide_eq_true (Int.ofNat_le.mp c3)
    clear c3
    by_cases c4 : 0 ≤ (a1.size : Int)
    · rw [if_pos c4] at H
      have c4b0 := eq_true c4
      have c4b1 : decide (0 ≤ (a1.size : Int)) = true := decide_eq_true c4
      clear c4
      by_cases c5 : (a1.size : Int) ≤ (a0.size : Int)
      · rw [if_pos c5] at H
        have c5b0 := eq_true c5
        have c5b1 : decide ((a1.size : Int) ≤ (a0.size : Int)) = true := decide_eq_true c5
        clear c5
        obtain rfl := Option.some.inj H
        go_enter Try.func10, Try.ntmps10
        go_wp2
        go_ret
        exact ⟨by first | rfl | (simp; done) | (simp [*]; done), by repeat (first | exact Drawn0.refl _ | apply Drawn0.step)⟩
      · rw [if_neg c5] at H
        exact absurd H (by simp)
    · rw [if_neg c4] at H
      exact absurd H (by simp)
  · rw [if_neg c3] at H
    have c3b0 : decide ((a1.size : Int) ≤ (a0.size : Int)) = false := decide_eq_false c3
    have c3b1 : decide (a1.size ≤ a0.size) = false := decide_eq_false (fun h => c3 (Int.ofNat_le.mpr h))
    clear c3
    obtain rfl := Option.some.inj H
    go_enter Try.func10, Try.ntmps10
    go_wp2
    go_ret
    exact ⟨by first | rfl | (simp; done) | (simp [*]; done), by repeat (first | exact Drawn0.refl _ | apply Drawn0.step)⟩

/-! ### strings_HasPrefix: function 7 -/
def strings_HasPrefix.f (a0 : ByteArray) (a1 : ByteArray) : Option (Bool) := (stringslite_HasPrefix.f a0 a1).bind fun t131 => (some t131)
set_option maxHeartbeats 8000000 in
set_option maxRecDepth 100000 in
theorem strings_HasPrefix.calls (a0 : ByteArray) (a1 : ByteArray) (r : Bool) (w : World) (h : strings_HasPrefix.f a0 a1 = some r) :
    Calls Try.prog 7 #[.string a0, .string a1] w fun e w' => e = .returned (.bool r) ∧ Drawn0 w w' := by
  have H : ((stringslite_HasPrefix.f a0 a1).bind fun t131 => (some t131)) = some r := h
  clear h
  replace H := Option.bind_eq_some_iff.mp H
  obtain ⟨t131, A30, H⟩ := H
  replace H : (some t131) = some r := H
  have A3 := Aside0.mk A30
  clear A30
  obtain rfl := Option.some.inj H
  go_enter Try.func7, Try.ntmps7
  go_wp2_with (first | ((with_reducible refine gate_callee (f := 10) rfl ?_); refine goesL_ (some 7) rfl rfl Try.func10 (by kernel_rfl) rfl #[.string a0, .string a1] rfl (by (try simp only [List.map_toArray, List.map_cons, List.map_nil]); first | done | rfl | (simp only [List.length_drop, List.length_take]; rfl)) ?_; (with_reducible refine (stringslite_HasPrefix.calls a0 a1 t131 _ A3.out).mono ?_); rintro e w' ⟨rfl, ⟨nd, rfl⟩⟩; refine ⟨_, rfl, ?_⟩))
  go_ret
  exact ⟨by first | rfl | (simp; done) | (simp [*]; done), by repeat (first | exact Drawn0.refl _ | apply Drawn0.step)⟩

/-! ### hawserlaw06_SpanPrefix: function 3 -/
def hawserlaw06_SpanPrefix.f (k : Nat) (a0 : ByteArray) (a1 : ByteArray) : Option (Bool) := (hawserlaw06_awake.f k).bind fun t132 => (if t132 = true then ((span_Prefix.f a0).bind fun bt133 => (if bt133.1.toList = a0.toList then ((hawserlaw06_has.f k (([(⟨bt133.1, bt133.2⟩ : S24)] : List (S24))) a1).bind fun t139 => ((strings_HasPrefix.f a1 a0).bind fun t140 => (if (t139 == t140) = true then (if a0.size + a1.size ≤ 9223372036854775807 then ((hawserlaw06_has.f k (([(⟨bt133.1, bt133.2⟩ : S24)] : List (S24))) (a0 ++ a1)).bind fun t144 => (some t144)) else (none)) else (some false)))) else (some false))) else (some false))
theorem hawserlaw06_SpanPrefix.mono : ∀ a0 a1 k, LeO (hawserlaw06_SpanPrefix.f k a0 a1) (hawserlaw06_SpanPrefix.f (k + 1) a0 a1) := by
  intro a0 a1 k
  unfold hawserlaw06_SpanPrefix.f
  repeat' first
      | (with_reducible exact hawserlaw06_awake.mono _)
      | (with_reducible exact hawserlaw06_has.mono _ _ _)
      | (with_reducible exact LeO.refl _)
      | (with_reducible exact LeO.none _)
      | (with_reducible refine LeO.ite ?_ ?_)
      | (with_reducible refine LeO.bind ?_ (fun _ => ?_))
      | exact hawserlaw06_awake.mono _
      | exact hawserlaw06_has.mono _ _ _
      | exact LeO.none _
      | refine LeO.ite ?_ ?_
      | refine LeO.bind ?_ (fun _ => ?_)
set_option maxHeartbeats 8000000 in
set_option maxRecDepth 100000 in
theorem hawserlaw06_SpanPrefix.calls (k : Nat) (a0 : ByteArray) (a1 : ByteArray) (r : Bool) (w : World) (h : hawserlaw06_SpanPrefix.f k a0 a1 = some r) :
    Calls Try.prog 3 #[.string a0, .string a1] w fun e w' => e = .returned (.bool r) ∧ Below w.heap.size w w' := by
  have hu24 := Try.underlying24
  have HB := Aside0.mk (Below.refl w.heap.size w)
  have H : ((hawserlaw06_awake.f k).bind fun t132 => (if t132 = true then ((span_Prefix.f a0).bind fun bt133 => (if bt133.1.toList = a0.toList then ((hawserlaw06_has.f k (([(⟨bt133.1, bt133.2⟩ : S24)] : List (S24))) a1).bind fun t139 => ((strings_HasPrefix.f a1 a0).bind fun t140 => (if (t139 == t140) = true then (if a0.size + a1.size ≤ 9223372036854775807 then ((hawserlaw06_has.f k (([(⟨bt133.1, bt133.2⟩ : S24)] : List (S24))) (a0 ++ a1)).bind fun t144 => (some t144)) else (none)) else (some false)))) else (some false))) else (some false))) = some r := h
  clear h
  replace H := Option.bind_eq_some_iff.mp H
  obtain ⟨t132, A30, H⟩ := H
  replace H : (if t132 = true then ((span_Prefix.f a0).bind fun bt133 => (if bt133.1.toList = a0.toList then ((hawserlaw06_has.f k (([(⟨bt133.1, bt133.2⟩ : S24)] : List (S24))) a1).bind fun t139 => ((strings_HasPrefix.f a1 a0).bind fun t140 => (if (t139 == t140) = true then (if a0.size + a1.size ≤ 9223372036854775807 then ((hawserlaw06_has.f k (([(⟨bt133.1, bt133.2⟩ : S24)] : List (S24))) (a0 ++ a1)).bind fun t144 => (some t144)) else (none)) else (some false)))) else (some false))) else (some false)) = some r := H
  have A3 := Aside0.mk A30
  clear A30
  by_cases c4 : t132 = true
  · subst c4
    have H1 : ((span_Prefix.f a0).bind fun bt133 => (if bt133.1.toList = a0.toList then ((hawserlaw06_has.f k (([(⟨bt133.1, bt133.2⟩ : S24)] : List (S24))) a1).bind fun t139 => ((strings_HasPrefix.f a1 a0).bind fun t140 => (if (t139 == t140) = true then (if a0.size + a1.size ≤ 9223372036854775807 then ((hawserlaw06_has.f k (([(⟨bt133.1, bt133.2⟩ : S24)] : List (S24))) (a0 ++ a1)).bind fun t144 => (some t144)) else (none)) else (some false)))) else (some false))) = some r := by rw [if_pos rfl] at H; exact H
    clear H
    have H := H1
    clear H1
    replace H := Option.bind_eq_some_iff.mp H
    obtain ⟨⟨t133, t134⟩, A50, H⟩ := H
    replace H : (if t133.toList = a0.toList then ((hawserlaw06_has.f k (([(⟨t133, t134⟩ : S24)] : List (S24))) a1).bind fun t139 => ((strings_HasPrefix.f a1 a0).bind fun t140 => (if (t139 == t140) = true then (if a0.size + a1.size ≤ 9223372036854775807 then ((hawserlaw06_has.f k (([(⟨t133, t134⟩ : S24)] : List (S24))) (a0 ++ a1)).bind fun t144 => (some t144)) else (none)) else (some false)))) else (some false)) = some r := H
    have A5 := Aside0.mk A50
    clear A50
    by_cases c6 : t133.toList = a0.toList
    · rw [if_pos c6] at H
      have c6b0 : (t133.toList == a0.toList) = true := beq_iff_eq.mpr c6
      have c6b1 : (t133.toList != a0.toList) = false := bne_eq_false_iff_eq.mpr c6
      clear c6
      obtain ⟨y136, hy136⟩ : ∃ y_ : List (S24), y_ = (([(⟨t133, t134⟩ : S24)] : List (S24))) := ⟨_, rfl⟩
      replace H : ((hawserlaw06_has.f k y136 a1).bind fun t139 => ((strings_HasPrefix.f a1 a0).bind fun t140 => (if (t139 == t140) = true then (if a0.size + a1.size ≤ 9223372036854775807 then ((hawserlaw06_has.f k (([(⟨t133, t134⟩ : S24)] : List (S24))) (a0 ++ a1)).bind fun t144 => (some t144)) else (none)) else (some false)))) = some r := by first | (rw [hy136]; with_reducible exact H) | (have H2_ := (Option.bind_some _ _).symm.trans H; rw [hy136]; with_reducible exact H2_) | (have H2_ := (Option.bind_some _ _).symm.trans H; with_reducible exact H2_) | with_reducible exact H | (rw [hy136]; exact H) | exact H
      have Ny136 := Aside0.mk hy136
      clear hy136
      replace H := Option.bind_eq_some_iff.mp H
      obtain ⟨t139, A70, H⟩ := H
      replace H : ((strings_HasPrefix.f a1 a0).bind fun t140 => (if (t139 == t140) = true then (if a0.size + a1.size ≤ 9223372036854775807 then ((hawserlaw06_has.f k (([(⟨t133, t134⟩ : S24)] : List (S24))) (a0 ++ a1)).bind fun t144 => (some t144)) else (none)) else (some false))) = some r := H
      have A7 := Aside0.mk A70
      clear A70
      replace H := Option.bind_eq_some_iff.mp H
      obtain ⟨t140, A80, H⟩ := H
      replace H : (if (t139 == t140) = true then (if a0.size + a1.size ≤ 9223372036854775807 then ((hawserlaw06_has.f k (([(⟨t133, t134⟩ : S24)] : List (S24))) (a0 ++ a1)).bind fun t144 => (some t144)) else (none)) else (some false)) = some r := H
      have A8 := Aside0.mk A80
      clear A80
      by_cases c9 : (t139 == t140) = true
      · rw [if_pos c9] at H
        have c9b0 : (t139 == t140) = true := c9
        (try (have c9b1 : decide (t139 = t140) = true := by simpa using c9))
        (try (have c9b2 : (t139 == t140) = true := by simpa using c9))
        clear c9
        obtain ⟨y141, hy141⟩ : ∃ y_ : List (S24), y_ = (([(⟨t133, t134⟩ : S24)] : List (S24))) := ⟨_, rfl⟩
        replace H : (if a0.size + a1.size ≤ 9223372036854775807 then ((hawserlaw06_has.f k y141 (a0 ++ a1)).bind fun t144 => (some t144)) else (none)) = some r := by first | (rw [hy141]; with_reducible exact H) | (have H2_ := (Option.bind_some _ _).symm.trans H; rw [hy141]; with_reducible exact H2_) | (have H2_ := (Option.bind_some _ _).symm.trans H; with_reducible exact H2_) | with_reducible exact H | (rw [hy141]; exact H) | exact H
        have Ny141 := Aside0.mk hy141
        clear hy141
        by_cases c10 : a0.size + a1.size ≤ 9223372036854775807
        · rw [if_pos c10] at H
          have c10b0 := eq_true c10
          have c10b1 : decide (a0.size + a1.size ≤ 9223372036854775807) = true := decide_eq_true c10
          try have c10b2 : (9223372036854775807 < a0.size + a1.size) = False := eq_false (Nat.not_lt.2 c10)
          replace H := Option.bind_eq_some_iff.mp H
          obtain ⟨t144, A110, H⟩ := H
          replace H : (some t144) = some r := H
          have A11 := Aside0.mk A110
          clear A110
          obtain rfl := Option.some.inj H
          go_enter Try.func3, Try.ntmps3
          go_wp2_with (first | ((with_reducible refine gate_callee (f := 4) rfl ?_); refine goesL_ (some 6) rfl rfl Try.func4 (by kernel_rfl) rfl #[] rfl (by (try simp only [List.map_toArray, List.map_cons, List.map_nil]); first | done | rfl | (simp only [List.length_drop, List.length_take]; rfl)) ?_; (with_reducible refine (hawserlaw06_awake.calls k  true _ A3.out).mono ?_); rintro e w12 ⟨rfl, hb⟩; refine ⟨_, rfl, ?_⟩; have n0_ := Aside0.mk (below_step (by repeat (first | (with_reducible first | exact HB.out | apply below_alloc | apply pw_below_drewN | apply below_drew1) | exact HB.out)) hb); clear HB; have HB := n0_; clear n0_; (try clear hb); (try clear hb2); (try clear hk); (try clear hi)) | ((with_reducible refine gate_callee (f := 5) rfl ?_); refine goesL_ (some 9) rfl rfl Try.func5 (by kernel_rfl) rfl #[.string a0] rfl (by (try simp only [List.map_toArray, List.map_cons, List.map_nil]); first | done | rfl | (simp only [List.length_drop, List.length_take]; rfl)) ?_; (with_reducible refine (span_Prefix.calls a0 t133 t134 _ A5.out).mono ?_); rintro e w13 ⟨rfl, hb⟩; refine ⟨_, rfl, ?_⟩; have n0_ := Aside0.mk (below_step (by repeat (first | (with_reducible first | exact HB.out | apply below_alloc | apply pw_below_drewN | apply below_drew1) | exact HB.out)) hb); clear HB; have HB := n0_; clear n0_; (try clear hb); (try clear hb2); (try clear hk); (try clear hi)) | ((with_reducible refine gate_dst (N := 5) rfl ?_); (try (refine gate_guard (by rfl) ?_; dsimp only)); refine box_event ?hg (N := 5) ?hd (cs := #[.string (⟨#[]⟩ : ByteArray), .string (⟨#[]⟩ : ByteArray)]) (t := 24) ?hr ?_; (case hd => rfl); (case hg => rfl); (case hr => first | (go_simp; done) | (go_simp; rfl)); intro gb135 hg w14 hbox hb; have n0_ := Aside0.mk (below_step (by repeat (first | (with_reducible first | exact HB.out | apply below_alloc | apply pw_below_drewN | apply below_drew1) | exact HB.out)) hb); have n1_ := Aside0.mk (hbox); have n2_ := Aside0.mk ((by rw [hg]; exact (below_size (by repeat (first | (with_reducible first | exact HB.out | apply below_alloc | apply pw_below_drewN | apply below_drew1) | exact HB.out))) : w.heap.size ≤ gb135)); have n3_ := Aside0.mk ((by rw [hg]; exact (below_size (by repeat (first | (with_reducible first | exact HB.out | apply below_alloc | apply pw_below_drewN | apply below_drew1) | exact HB.out))) : w.heap.size ≤ gb135)); clear HB; have HB := n0_; have BK135 := n1_; have GW135 := n2_; have GE135 := n3_; clear n0_ n1_ n2_ n3_; clear hb hbox hg; have hcz15_0 : w14.cell? ⟨gb135, 0, none⟩ = some (.string (⟨#[]⟩ : ByteArray)) := (blk_cell BK135.out 0).trans rfl; have hcz15_1 : w14.cell? ⟨gb135, 1, none⟩ = some (.string (⟨#[]⟩ : ByteArray)) := (blk_cell BK135.out 1).trans rfl; have hfz15_0 := blk_frozen BK135.out 0; have hfz15_1 := blk_frozen BK135.out 1) | ((with_reducible refine gate_dst (N := 16) rfl ?_); (try (refine gate_guard (by rfl) ?_; dsimp only)); refine Kd.R_lit k24 _ 24 ?hg (N := 16) ?hd (xs := ([(⟨t133, t134⟩ : S24)] : List (S24))) (inner := [.string t133, .string t134]) (ok := fun _ => True) (okp := fun _ => True) ?hr ?hp (fun _ hk => hk) trivial (Below.refl _ _) (Nat.le_refl _) (by simp) ?_; (case hd => rfl); (case hg => rfl); (case hr => first | (go_simp; done) | (go_simp; rfl)); (case hp => exact (Reps.c2 (show Kd.M k24 _ _ _ (⟨t133, t134⟩ : S24) [.string t133, .string t134] from (k24_mkM _ _ _ (⟨t133, t134⟩ : S24) )) (Reps.none _ _))); intro v137 w16 ho17 hb hg_ hnew_; clear hg_ hnew_; (first | rw [← Ny136.out] at ho17 | (simp only [Int.reduceToNat] at ho17; rw [← Ny136.out] at ho17)); have n0_ := Aside0.mk (Kd.R_lower (Kd.R_newB ho17 (g := gb135) (o := .cells #[.string t133, .string t134] 24 (0, 0)) (by (with_reducible repeat (first | refine blk_drewN ?_ _ | refine blk_drew ?_ | refine blk_alloc ?_ _)); refine blk_put (cs := #[.string t133, .string (⟨#[]⟩ : ByteArray)]) ?_ 1 _ rfl; (with_reducible repeat (first | refine blk_drewN ?_ _ | refine blk_drew ?_ | refine blk_alloc ?_ _)); refine blk_put (cs := #[.string (⟨#[]⟩ : ByteArray), .string (⟨#[]⟩ : ByteArray)]) ?_ 0 _ rfl; (with_reducible repeat (first | refine blk_drewN ?_ _ | refine blk_drew ?_ | refine blk_alloc ?_ _)); exact BK135.out)) (below_size (by repeat (first | (with_reducible first | exact HB.out | apply below_alloc | apply pw_below_drewN | apply below_drew1 | refine below_set ?_ GE135.out) | exact HB.out)))); have n1_ := Aside0.mk (blk_below (g := gb135) (o := .cells #[.string t133, .string t134] 24 (0, 0)) (by (with_reducible repeat (first | refine blk_drewN ?_ _ | refine blk_drew ?_ | refine blk_alloc ?_ _)); refine blk_put (cs := #[.string t133, .string (⟨#[]⟩ : ByteArray)]) ?_ 1 _ rfl; (with_reducible repeat (first | refine blk_drewN ?_ _ | refine blk_drew ?_ | refine blk_alloc ?_ _)); refine blk_put (cs := #[.string (⟨#[]⟩ : ByteArray), .string (⟨#[]⟩ : ByteArray)]) ?_ 0 _ rfl; (with_reducible repeat (first | refine blk_drewN ?_ _ | refine blk_drew ?_ | refine blk_alloc ?_ _)); exact BK135.out) hb); have n2_ := Aside0.mk (below_step (by repeat (first | (with_reducible first | exact HB.out | apply below_alloc | apply pw_below_drewN | apply below_drew1 | refine below_set ?_ GE135.out) | exact HB.out)) hb); clear BK135; clear HB; have HO138 := n0_; have BK135 := n1_; have HB := n2_; clear n0_ n1_ n2_; clear hb ho17; obtain ⟨Ao18, co18, eo18⟩ := Kd.R_slice HO138.out; subst eo18) | (go_at_call 6; (with_reducible refine (hawserlaw06_has.calls k _ _ y136 a1 t139 _ ?side1 ?side2 A7.out).mono ?_); (case side1 => repeat (first | exact (Kd.R_reads' HO138.out).2.2 | (with_reducible refine Kd.C_alloc ?_ _) | (with_reducible refine Kd.C_drewN ?_ _) | (with_reducible refine Kd.C_drew ?_))); (case side2 => exact (Kd.R_reads' HO138.out).2.1); rintro e w' ⟨rfl, ⟨nd, rfl⟩⟩) | (go_at_call 7; (with_reducible refine (strings_HasPrefix.calls a1 a0 t140 _ A8.out).mono ?_); rintro e w' ⟨rfl, ⟨nd, rfl⟩⟩; have hcz19_0 : w16.cell? ⟨gb135, 0, none⟩ = some (.string t133) := (blk_cell BK135.out 0).trans rfl; have hcz19_1 : w16.cell? ⟨gb135, 1, none⟩ = some (.string t134) := (blk_cell BK135.out 1).trans rfl; have hfz19_0 := blk_frozen BK135.out 0; have hfz19_1 := blk_frozen BK135.out 1) | ((with_reducible refine gate_dst (N := 26) rfl ?_); (try (refine gate_guard (by rfl) ?_; dsimp only)); refine Kd.R_lit k24 _ 24 ?hg (N := 26) ?hd (xs := ([(⟨t133, t134⟩ : S24)] : List (S24))) (inner := [.string t133, .string t134]) (ok := fun _ => True) (okp := fun _ => True) ?hr ?hp (fun _ hk => hk) trivial (Below.refl _ _) (Nat.le_refl _) (by simp) ?_; (case hd => rfl); (case hg => rfl); (case hr => first | (go_simp; done) | (go_simp; rfl)); (case hp => exact (Reps.c2 (show Kd.M k24 _ _ _ (⟨t133, t134⟩ : S24) [.string t133, .string t134] from (k24_mkM _ _ _ (⟨t133, t134⟩ : S24) )) (Reps.none _ _))); intro v142 w20 ho21 hb hg_ hnew_; clear hg_ hnew_; (first | rw [← Ny141.out] at ho21 | (simp only [Int.reduceToNat] at ho21; rw [← Ny141.out] at ho21)); have n0_ := Aside0.mk (Kd.R_elder' (by (with_reducible repeat (first | apply Kd.R_alloc | apply Kd.R_drewN | apply Kd.R_drew)); exact HO138.out) (Kd.R_base ho21) hb); have n1_ := Aside0.mk (Kd.R_lower (Kd.R_newB (Kd.R_new' ho21 (Kd.R_lt (by (with_reducible repeat (first | apply Kd.R_alloc | apply Kd.R_drewN | apply Kd.R_drew)); exact HO138.out))) (g := gb135) (o := .cells #[.string t133, .string t134] 24 (0, 0)) (by (with_reducible repeat (first | refine blk_drewN ?_ _ | refine blk_drew ?_ | refine blk_alloc ?_ _)); exact BK135.out)) (below_size (by repeat (first | (with_reducible first | exact HB.out | apply below_alloc | apply pw_below_drewN | apply below_drew1 | refine below_set ?_ GE135.out) | exact HB.out)))); have n2_ := Aside0.mk (blk_below (g := gb135) (o := .cells #[.string t133, .string t134] 24 (0, 0)) (by (with_reducible repeat (first | refine blk_drewN ?_ _ | refine blk_drew ?_ | refine blk_alloc ?_ _)); exact BK135.out) hb); have n3_ := Aside0.mk (below_step (by repeat (first | (with_reducible first | exact HB.out | apply below_alloc | apply pw_below_drewN | apply below_drew1 | refine below_set ?_ GE135.out) | exact HB.out)) hb); clear HO138; clear BK135; clear HB; have HO138 := n0_; have HO143 := n1_; have BK135 := n2_; have HB := n3_; clear n0_ n1_ n2_ n3_; clear hb ho21; obtain ⟨Ao22, co22, eo22⟩ := Kd.R_slice HO143.out; subst eo22) | (go_at_call 6; (with_reducible refine (hawserlaw06_has.calls k _ _ y141 (a0 ++ a1) t144 _ ?side1 ?side2 A11.out).mono ?_); (case side1 => repeat (first | exact (Kd.R_reads' HO143.out).2.2 | (with_reducible refine Kd.C_alloc ?_ _) | (with_reducible refine Kd.C_drewN ?_ _) | (with_reducible refine Kd.C_drew ?_))); (case side2 => exact (Kd.R_reads' HO143.out).2.1); rintro e w' ⟨rfl, ⟨nd, rfl⟩⟩))
          go_ret
          exact ⟨by first | rfl | (simp [errW_none, errW_some] <;> rfl) | (simp [*, errW_none, errW_some] <;> rfl), by repeat (first | (with_reducible first | exact HB.out | apply below_alloc | apply pw_below_drewN | apply below_drew1 | refine below_set ?_ GE135.out) | exact HB.out)⟩
        · rw [if_neg c10] at H
          exact absurd H (by simp)
      · rw [if_neg c9] at H
        have c9b0 : (t139 == t140) = false := by simpa using c9
        (try (have c9b1 : decide (t139 = t140) = false := by simpa using c9))
        (try (have c9b2 : (t139 == t140) = false := by simpa using c9))
        (try (have c9b3 : ¬ (t139 = t140) := by simpa using c9))
        clear c9
        obtain rfl := Option.some.inj H
        go_enter Try.func3, Try.ntmps3
        go_wp2_with (first | ((with_reducible refine gate_callee (f := 4) rfl ?_); refine goesL_ (some 6) rfl rfl Try.func4 (by kernel_rfl) rfl #[] rfl (by (try simp only [List.map_toArray, List.map_cons, List.map_nil]); first | done | rfl | (simp only [List.length_drop, List.length_take]; rfl)) ?_; (with_reducible refine (hawserlaw06_awake.calls k  true _ A3.out).mono ?_); rintro e w23 ⟨rfl, hb⟩; refine ⟨_, rfl, ?_⟩; have n0_ := Aside0.mk (below_step (by repeat (first | (with_reducible first | exact HB.out | apply below_alloc | apply pw_below_drewN | apply below_drew1) | exact HB.out)) hb); clear HB; have HB := n0_; clear n0_; (try clear hb); (try clear hb2); (try clear hk); (try clear hi)) | ((with_reducible refine gate_callee (f := 5) rfl ?_); refine goesL_ (some 9) rfl rfl Try.func5 (by kernel_rfl) rfl #[.string a0] rfl (by (try simp only [List.map_toArray, List.map_cons, List.map_nil]); first | done | rfl | (simp only [List.length_drop, List.length_take]; rfl)) ?_; (with_reducible refine (span_Prefix.calls a0 t133 t134 _ A5.out).mono ?_); rintro e w24 ⟨rfl, hb⟩; refine ⟨_, rfl, ?_⟩; have n0_ := Aside0.mk (below_step (by repeat (first | (with_reducible first | exact HB.out | apply below_alloc | apply pw_below_drewN | apply below_drew1) | exact HB.out)) hb); clear HB; have HB := n0_; clear n0_; (try clear hb); (try clear hb2); (try clear hk); (try clear hi)) | ((with_reducible refine gate_dst (N := 5) rfl ?_); (try (refine gate_guard (by rfl) ?_; dsimp only)); refine box_event ?hg (N := 5) ?hd (cs := #[.string (⟨#[]⟩ : ByteArray), .string (⟨#[]⟩ : ByteArray)]) (t := 24) ?hr ?_; (case hd => rfl); (case hg => rfl); (case hr => first | (go_simp; done) | (go_simp; rfl)); intro gb135 hg w25 hbox hb; have n0_ := Aside0.mk (below_step (by repeat (first | (with_reducible first | exact HB.out | apply below_alloc | apply pw_below_drewN | apply below_drew1) | exact HB.out)) hb); have n1_ := Aside0.mk (hbox); have n2_ := Aside0.mk ((by rw [hg]; exact (below_size (by repeat (first | (with_reducible first | exact HB.out | apply below_alloc | apply pw_below_drewN | apply below_drew1) | exact HB.out))) : w.heap.size ≤ gb135)); have n3_ := Aside0.mk ((by rw [hg]; exact (below_size (by repeat (first | (with_reducible first | exact HB.out | apply below_alloc | apply pw_below_drewN | apply below_drew1) | exact HB.out))) : w.heap.size ≤ gb135)); clear HB; have HB := n0_; have BK135 := n1_; have GW135 := n2_; have GE135 := n3_; clear n0_ n1_ n2_ n3_; clear hb hbox hg; have hcz26_0 : w25.cell? ⟨gb135, 0, none⟩ = some (.string (⟨#[]⟩ : ByteArray)) := (blk_cell BK135.out 0).trans rfl; have hcz26_1 : w25.cell? ⟨gb135, 1, none⟩ = some (.string (⟨#[]⟩ : ByteArray)) := (blk_cell BK135.out 1).trans rfl; have hfz26_0 := blk_frozen BK135.out 0; have hfz26_1 := blk_frozen BK135.out 1) | ((with_reducible refine gate_dst (N := 16) rfl ?_); (try (refine gate_guard (by rfl) ?_; dsimp only)); refine Kd.R_lit k24 _ 24 ?hg (N := 16) ?hd (xs := ([(⟨t133, t134⟩ : S24)] : List (S24))) (inner := [.string t133, .string t134]) (ok := fun _ => True) (okp := fun _ => True) ?hr ?hp (fun _ hk => hk) trivial (Below.refl _ _) (Nat.le_refl _) (by simp) ?_; (case hd => rfl); (case hg => rfl); (case hr => first | (go_simp; done) | (go_simp; rfl)); (case hp => exact (Reps.c2 (show Kd.M k24 _ _ _ (⟨t133, t134⟩ : S24) [.string t133, .string t134] from (k24_mkM _ _ _ (⟨t133, t134⟩ : S24) )) (Reps.none _ _))); intro v137 w27 ho28 hb hg_ hnew_; clear hg_ hnew_; (first | rw [← Ny136.out] at ho28 | (simp only [Int.reduceToNat] at ho28; rw [← Ny136.out] at ho28)); have n0_ := Aside0.mk (Kd.R_lower (Kd.R_newB ho28 (g := gb135) (o := .cells #[.string t133, .string t134] 24 (0, 0)) (by (with_reducible repeat (first | refine blk_drewN ?_ _ | refine blk_drew ?_ | refine blk_alloc ?_ _)); refine blk_put (cs := #[.string t133, .string (⟨#[]⟩ : ByteArray)]) ?_ 1 _ rfl; (with_reducible repeat (first | refine blk_drewN ?_ _ | refine blk_drew ?_ | refine blk_alloc ?_ _)); refine blk_put (cs := #[.string (⟨#[]⟩ : ByteArray), .string (⟨#[]⟩ : ByteArray)]) ?_ 0 _ rfl; (with_reducible repeat (first | refine blk_drewN ?_ _ | refine blk_drew ?_ | refine blk_alloc ?_ _)); exact BK135.out)) (below_size (by repeat (first | (with_reducible first | exact HB.out | apply below_alloc | apply pw_below_drewN | apply below_drew1 | refine below_set ?_ GE135.out) | exact HB.out)))); have n1_ := Aside0.mk (blk_below (g := gb135) (o := .cells #[.string t133, .string t134] 24 (0, 0)) (by (with_reducible repeat (first | refine blk_drewN ?_ _ | refine blk_drew ?_ | refine blk_alloc ?_ _)); refine blk_put (cs := #[.string t133, .string (⟨#[]⟩ : ByteArray)]) ?_ 1 _ rfl; (with_reducible repeat (first | refine blk_drewN ?_ _ | refine blk_drew ?_ | refine blk_alloc ?_ _)); refine blk_put (cs := #[.string (⟨#[]⟩ : ByteArray), .string (⟨#[]⟩ : ByteArray)]) ?_ 0 _ rfl; (with_reducible repeat (first | refine blk_drewN ?_ _ | refine blk_drew ?_ | refine blk_alloc ?_ _)); exact BK135.out) hb); have n2_ := Aside0.mk (below_step (by repeat (first | (with_reducible first | exact HB.out | apply below_alloc | apply pw_below_drewN | apply below_drew1 | refine below_set ?_ GE135.out) | exact HB.out)) hb); clear BK135; clear HB; have HO138 := n0_; have BK135 := n1_; have HB := n2_; clear n0_ n1_ n2_; clear hb ho28; obtain ⟨Ao29, co29, eo29⟩ := Kd.R_slice HO138.out; subst eo29) | (go_at_call 6; (with_reducible refine (hawserlaw06_has.calls k _ _ y136 a1 t139 _ ?side1 ?side2 A7.out).mono ?_); (case side1 => repeat (first | exact (Kd.R_reads' HO138.out).2.2 | (with_reducible refine Kd.C_alloc ?_ _) | (with_reducible refine Kd.C_drewN ?_ _) | (with_reducible refine Kd.C_drew ?_))); (case side2 => exact (Kd.R_reads' HO138.out).2.1); rintro e w' ⟨rfl, ⟨nd, rfl⟩⟩) | (go_at_call 7; (with_reducible refine (strings_HasPrefix.calls a1 a0 t140 _ A8.out).mono ?_); rintro e w' ⟨rfl, ⟨nd, rfl⟩⟩))
        go_ret
        exact ⟨by first | rfl | (simp [errW_none, errW_some] <;> rfl) | (simp [*, errW_none, errW_some] <;> rfl), by repeat (first | (with_reducible first | exact HB.out | apply below_alloc | apply pw_below_drewN | apply below_drew1 | refine below_set ?_ GE135.out) | exact HB.out)⟩
    · rw [if_neg c6] at H
      have c6b0 : (t133.toList == a0.toList) = false := beq_eq_false_iff_ne.mpr c6
      have c6b1 : (t133.toList != a0.toList) = true := bne_iff_ne.mpr c6
      obtain rfl := Option.some.inj H
      go_enter Try.func3, Try.ntmps3
      go_wp2_with (first | ((with_reducible refine gate_callee (f := 4) rfl ?_); refine goesL_ (some 6) rfl rfl Try.func4 (by kernel_rfl) rfl #[] rfl (by (try simp only [List.map_toArray, List.map_cons, List.map_nil]); first | done | rfl | (simp only [List.length_drop, List.length_take]; rfl)) ?_; (with_reducible refine (hawserlaw06_awake.calls k  true _ A3.out).mono ?_); rintro e w30 ⟨rfl, hb⟩; refine ⟨_, rfl, ?_⟩; have n0_ := Aside0.mk (below_step (by repeat (first | (with_reducible first | exact HB.out | apply below_alloc | apply pw_below_drewN | apply below_drew1) | exact HB.out)) hb); clear HB; have HB := n0_; clear n0_; (try clear hb); (try clear hb2); (try clear hk); (try clear hi)) | ((with_reducible refine gate_callee (f := 5) rfl ?_); refine goesL_ (some 9) rfl rfl Try.func5 (by kernel_rfl) rfl #[.string a0] rfl (by (try simp only [List.map_toArray, List.map_cons, List.map_nil]); first | done | rfl | (simp only [List.length_drop, List.length_take]; rfl)) ?_; (with_reducible refine (span_Prefix.calls a0 t133 t134 _ A5.out).mono ?_); rintro e w31 ⟨rfl, hb⟩; refine ⟨_, rfl, ?_⟩; have n0_ := Aside0.mk (below_step (by repeat (first | (with_reducible first | exact HB.out | apply below_alloc | apply pw_below_drewN | apply below_drew1) | exact HB.out)) hb); clear HB; have HB := n0_; clear n0_; (try clear hb); (try clear hb2); (try clear hk); (try clear hi)) | ((with_reducible refine gate_dst (N := 5) rfl ?_); (try (refine gate_guard (by rfl) ?_; dsimp only)); refine box_event ?hg (N := 5) ?hd (cs := #[.string (⟨#[]⟩ : ByteArray), .string (⟨#[]⟩ : ByteArray)]) (t := 24) ?hr ?_; (case hd => rfl); (case hg => rfl); (case hr => first | (go_simp; done) | (go_simp; rfl)); intro gb135 hg w32 hbox hb; have n0_ := Aside0.mk (below_step (by repeat (first | (with_reducible first | exact HB.out | apply below_alloc | apply pw_below_drewN | apply below_drew1) | exact HB.out)) hb); have n1_ := Aside0.mk (hbox); have n2_ := Aside0.mk ((by rw [hg]; exact (below_size (by repeat (first | (with_reducible first | exact HB.out | apply below_alloc | apply pw_below_drewN | apply below_drew1) | exact HB.out))) : w.heap.size ≤ gb135)); have n3_ := Aside0.mk ((by rw [hg]; exact (below_size (by repeat (first | (with_reducible first | exact HB.out | apply below_alloc | apply pw_below_drewN | apply below_drew1) | exact HB.out))) : w.heap.size ≤ gb135)); clear HB; have HB := n0_; have BK135 := n1_; have GW135 := n2_; have GE135 := n3_; clear n0_ n1_ n2_ n3_; clear hb hbox hg; have hcz33_0 : w32.cell? ⟨gb135, 0, none⟩ = some (.string (⟨#[]⟩ : ByteArray)) := (blk_cell BK135.out 0).trans rfl; have hcz33_1 : w32.cell? ⟨gb135, 1, none⟩ = some (.string (⟨#[]⟩ : ByteArray)) := (blk_cell BK135.out 1).trans rfl; have hfz33_0 := blk_frozen BK135.out 0; have hfz33_1 := blk_frozen BK135.out 1))
      go_ret
      exact ⟨by first | rfl | (simp [errW_none, errW_some] <;> rfl) | (simp [*, errW_none, errW_some] <;> rfl), by repeat (first | (with_reducible first | exact HB.out | apply below_alloc | apply pw_below_drewN | apply below_drew1 | refine below_set ?_ GE135.out) | exact HB.out)⟩
  · replace c4 := Bool.eq_false_iff.mpr c4
    subst c4
    have H1 : (some false) = some r := by rw [if_neg (show ¬ (false = true) by decide)] at H; exact H
    clear H
    have H := H1
    clear H1
    obtain rfl := Option.some.inj H
    go_enter Try.func3, Try.ntmps3
    go_wp2_with (first | ((with_reducible refine gate_callee (f := 4) rfl ?_); refine goesL_ (some 6) rfl rfl Try.func4 (by kernel_rfl) rfl #[] rfl (by (try simp only [List.map_toArray, List.map_cons, List.map_nil]); first | done | rfl | (simp only [List.length_drop, List.length_take]; rfl)) ?_; (with_reducible refine (hawserlaw06_awake.calls k  false _ A3.out).mono ?_); rintro e w34 ⟨rfl, hb⟩; refine ⟨_, rfl, ?_⟩; have n0_ := Aside0.mk (below_step (by repeat (first | (with_reducible first | exact HB.out | apply below_alloc | apply pw_below_drewN | apply below_drew1) | exact HB.out)) hb); clear HB; have HB := n0_; clear n0_; (try clear hb); (try clear hb2); (try clear hk); (try clear hi)))
    go_ret
    exact ⟨by first | rfl | (simp [errW_none, errW_some] <;> rfl) | (simp [*, errW_none, errW_some] <;> rfl), by repeat (first | (with_reducible first | exact HB.out | apply below_alloc | apply pw_below_drewN | apply below_drew1) | exact HB.out)⟩

/-- THE ONE PURE STATEMENT of hawserlaw06_SpanPrefix: yours. -/
def hawserlaw06_SpanPrefix.Pure : Prop := ∀ (a0 : ByteArray) (a1 : ByteArray), a0.size ≤ 140737488351232 → a1.size ≤ 140737488351232 → ∃ k, hawserlaw06_SpanPrefix.f k a0 a1 = some true
theorem hawserlaw06_SpanPrefix.walk (P : hawserlaw06_SpanPrefix.Pure) (a0 : ByteArray) (a1 : ByteArray) (w : World) (w0 : a0.size ≤ 140737488351232) (w1 : a1.size ≤ 140737488351232) :
    Calls Try.prog 3 #[.string a0, .string a1] w fun e w' => e = .returned (.bool true) ∧ Below w.heap.size w w' := by
  obtain ⟨k, h⟩ := P a0 a1 w0 w1
  refine (hawserlaw06_SpanPrefix.calls k a0 a1 true w h).mono ?_
  rintro e w' ⟨rfl, hd⟩
  exact ⟨rfl, hd⟩

end Go.Proofs.Ytijlanhhelichaa.PSpanPrefix

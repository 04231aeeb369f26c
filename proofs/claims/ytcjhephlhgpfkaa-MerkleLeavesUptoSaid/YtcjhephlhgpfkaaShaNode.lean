/- What is proved: the contract of merkle.Node; the conditions stand in the theorem. -/
import Derived.Test.YtcjhephlhgpfkaaRShaG
import Derived.Deep.DeepCutAuto
import Derived.Deep.CutBlock
namespace Go.Proofs.Ytcjhephlhgpfkaa.Sha
open Go.RowKit Go.Proofs.YtcjhephlhgpfkaaW.PrintWords Go.Proofs.YtcjhephlhgpfkaaW.PrintLast
set_option linter.unusedVariables false
set_option linter.unusedSimpArgs false
theorem made0 : (madeCells #[.int .u8 0] 513)[0]? = some (.int .u8 0) := by kernel_rfl
theorem made1 : List.take 1 ((madeCells #[.int .u8 0] 513).setIfInBounds 0 (.int .u8 1)).toList = [.int .u8 1] := by kernel_rfl
def D512 (D : List Int) : Array Value := (nums .u8 D).toArray
theorem idx24 (D : List Int) (i : Nat) (hi : i < 16) (hl : D.length = 512) (W : World) : (Instr.index 24 (.agg (D512 D)) (.int .i64 i)).run Try.prog W = .ok (.agg (nums .u8 ((D.drop (32 * i)).take 32)).toArray) W := by
  have h0 : (0 : Int) ≤ (i : Int) ∧ (i : Int) < 16 := by omega
  have e : (D512 D).extract (i * 32) (i * 32 + 32) = (nums .u8 ((D.drop (32 * i)).take 32)).toArray := by
    unfold D512 nums
    apply Array.ext'
    rw [Array.toList_extract, List.extract_eq_take_drop]
    simp only [List.map_take, List.map_drop]
    rw [show i * 32 + 32 - i * 32 = 32 by omega, show i * 32 = 32 * i by omega]
  simp [Instr.index, asIntOf, h0, part, isAgg, e]
  intro h; omega
set_option maxRecDepth 100000 in
set_option maxHeartbeats 8000000 in
theorem node_any (w : World) (D L : List Int) (hL : RowKit.Hid (L = (1 : Int) :: D)) (hl : D.length = 512) (hD : ∀ x ∈ D, 0 ≤ x ∧ x ≤ 255) :
    Calls Try.prog 6 #[.agg (D512 D)] w fun e w' => e = .returned (digV L) ∧ Below w.heap.size w w' := by
  go_enter Try.func6, Try.ntmps6
  go_upto_region 1 with (fail)
  refine abs_world ?_
  intro w1 hw1
  have hb1 : Below w.heap.size w w1 := by rw [hw1]; exact ((Below.refl _ _).alloc (Nat.le_refl _) _).alloc (by simp) _
  have z1 : w1.heap.size = w.heap.size + 2 := by rw [hw1]; simp [World.size_alloc]
  have a1 : w1.heap[w.heap.size]? = some (.cells (D512 D) 24 (0, 0)) := by
    rw [hw1, Below.heap_alloc _ _ _ (by simp)]; exact heap_alloc_new w _
  have t1 : w1.heap[w.heap.size + 1]? = some (.cells (Row32 (fun _ => 0) 0) 23 (0, 0)) := by
    have h := heap_alloc_new (w.alloc (.cells (D512 D) 24)) (.cells (Row32 (fun _ => 0) 0) 23 (0, 0))
    simp only [World.size_alloc] at h
    rw [hw1]; exact h
  clear hw1
  obtain ⟨i0, hi, hz0, hz1, hz2⟩ := info_parts info5
  have hmk : ∀ W : World, (Instr.makeSlice 37 (.int .i64 1) (.int .i64 513)).run Try.prog W = .ok (.slice (some ⟨W.heap.size, 0, none⟩) 1 513) (W.alloc (.cells (madeCells #[.int .u8 0] 513) 5)) := by
    intro W
    have h := run_make (P := Try.prog) (w := W) 37 5 i0 (.int .u8 0) Try.underlying37 hi hz0 .i64 .i64 1 513 (by omega) (by omega) (by rw [hz2]; omega) (by omega)
    rw [hz1] at h
    exact h
  go_upto_region 2 with (fail)
  refine abs_world ?_
  intro w2 hw2
  have hb2 : Below w1.heap.size w1 w2 := by rw [hw2]; exact (Below.refl _ _).alloc (Nat.le_refl _) _
  have g2 : w2.heap[w1.heap.size]? = some (.cells (madeCells #[.int .u8 0] 513) 5 (0, 0)) := by rw [hw2]; exact heap_alloc_new w1 _
  clear hw2 hmk
  rw [z1] at g2
  have cg : w2.cell? ⟨w.heap.size + 2, 0, none⟩ = some (.int .u8 0) := by rw [cell_of_row w2 (w.heap.size + 2) 0 _ _ _ g2]; exact made0
  have fg : w2.frozen? ⟨w.heap.size + 2, 0, none⟩ = false := frozen_of_row w2 (w.heap.size + 2) 0 _ _ g2
  have z2 : w.heap.size + 2 < w2.heap.size := by rcases Nat.lt_or_ge (w.heap.size + 2) w2.heap.size with h | h; exact h; rw [Array.getElem?_eq_none h] at g2; cases g2
  have a2 := (hb2.block w.heap.size (by omega)).trans a1
  have t2 := (hb2.block (w.heap.size + 1) (by omega)).trans t1
  have b2 : Below w.heap.size w w2 := hb1.trans (hb2.mono (by omega))
  have Z1 := Lib.hid z1
  clear hb1 hb2 a1 t1 z1
  have G := Lib.hid (And.intro g2 (And.intro a2 (And.intro t2 (And.intro b2 z2))))
  clear g2 a2 t2 b2 z2
  go_upto_region 3 with (fail)
  refine abs_world ?_
  intro w3 hw3
  have g3 : w3.heap[w.heap.size + 2]? = some (.cells ((madeCells #[.int .u8 0] 513).setIfInBounds 0 (.int .u8 1)) 5 (0, 0)) := by rw [hw3]; exact heap_setCell_same w2 (w.heap.size + 2) 0 _ 5 (.int .u8 1) G.out.1
  have a3 : w3.heap[w.heap.size]? = some (.cells (D512 D) 24 (0, 0)) := by rw [hw3, heap_setCell_other _ _ _ _ (by simp)]; exact G.out.2.1
  have t3 : w3.heap[w.heap.size + 1]? = some (.cells (Row32 (fun _ => 0) 0) 23 (0, 0)) := by rw [hw3, heap_setCell_other _ _ _ _ (by simp)]; exact G.out.2.2.1
  have b3 : Below w.heap.size w w3 := by rw [hw3]; exact G.out.2.2.2.1.setCell (by simp) _
  have z3 : w.heap.size + 2 < w3.heap.size := by rw [hw3, World.size_setCell]; exact G.out.2.2.2.2
  have o3 : w3.ownsRow (w.heap.size + 2) 5 1 (.slice (some ⟨w.heap.size + 2, 0, none⟩) 1 513) [(1 : Int)].length (nums .u8 [1]) :=
    ⟨rfl, .inr ⟨w.heap.size + 2, 513, _, rfl, Nat.le_refl _, g3, by decide, by decide, by simp [size_madeCells], made1⟩⟩
  clear hw3 G cg fg g3
  have G := Lib.hid (And.intro a3 (And.intro t3 (And.intro b3 (And.intro z3 o3))))
  clear t3 b3 z3 o3
  go_upto_region 4 with (first
    | (refine wpList_load_row rfl 24 (.tmp 1) rfl w.heap.size rfl 24 (D512 D) (0, 0) _ a3 Try.underlying24 rfl (by rw [show (D512 D).size = 512 by simp [D512, nums, hl]]; kernel_rfl) ?_))
  clear a3
  go_loopw [3, 10] (fun v iv wr => ∃ i : Nat, i ≤ 16 ∧ iv = .int .i64 i ∧ wr.ownsRow (w.heap.size + 2) 5 1 v (1 :: D.take (32 * i)).length (nums .u8 (1 :: D.take (32 * i))) ∧ Below (w.heap.size + 2) w3 wr) (fun _ iv _ => 16 - (intOf iv).toNat)
  case atStart => exact ⟨0, by omega, rfl, by simpa using G.out.2.2.2.2, Below.refl _ _⟩
  case round =>
    obtain ⟨i, hi, rfl, hown, hb⟩ := hrel
    have hz : w.heap.size + 2 ≤ wr.heap.size := by have := hb.size; have := G.out.2.2.2.1; omega
    by_cases hlt : i < 16
    · have hix := idx24 D i hlt hl
      obtain ⟨ds, hds⟩ : ∃ ds, RowKit.Hid (ds = (D.drop (32 * i)).take 32) := ⟨_, Lib.hid rfl⟩
      rw [← hds.out] at hix
      have hdl : ds.length = 32 := by rw [hds.out, List.length_take, List.length_drop]; omega
      obtain ⟨cs, hcs⟩ : ∃ cs : Array Value, RowKit.Hid (cs = (nums .u8 ds).toArray) := ⟨_, Lib.hid rfl⟩
      rw [← hcs.out] at hix
      have hcz : cs.size = 32 := by rw [hcs.out]; simp [nums, hdl]
      have hco : cs.all (·.oneCell') = true := by rw [hcs.out]; simp [nums, Value.oneCell']
      obtain ⟨A5, c5, rfl, -, -, -⟩ := own_shape hown
      have F := Lib.hid (And.intro hown hb)
      clear hown hb
      go_upto_region 6 with (first
        | (refine wpList_store_rowTo rfl 23 (.tmp 5) (.tmp 12) rfl rfl wr.heap.size cs rfl rfl 23 _ (heap_alloc_new wr _) (by rw [hcz]; kernel_rfl) (by rw [hcz]; rfl) hco ?_; refine abs_list ?_; intro wc hwc))
      have gC : wc.heap[wr.heap.size]? = some (.cells cs 23 (0, 0)) := by rw [hwc]; exact setRow_heap _ _ _ _ _ _ (heap_alloc_new wr _)
      have bC : Below wr.heap.size wr wc := by rw [hwc]; exact below_setRow ((Below.refl _ _).alloc (Nat.le_refl _) _) (Nat.le_refl _) _
      have rC : ReadsInt wc .u8 (some ⟨wr.heap.size, 0, none⟩) 32 ds := by
        refine ⟨hdl, by omega, fun _ => ⟨_, rfl, fun j hj => ?_⟩⟩
        rw [Addr.add_lit, Nat.zero_add, cell_of_row wc wr.heap.size j _ _ _ gC, hcs.out]
        have hj' : j < ds.length := by omega
        simp [nums, List.getD, List.getElem?_eq_getElem hj']
      have oC := pw_own_below F.out.1 bC
      have e : (1 :: D.take (32 * i)) ++ ds = 1 :: D.take (32 * (i + 1)) := by
        rw [hds.out, List.cons_append, ← List.take_add]; rfl
      clear hwc gC hix hcz hco hcs
      go_wp2_with (first
        | (at_builtin; refine print_append_row (w0 := w3) (w.heap.size + 2) rfl (.tmp 13) (.tmp 14) 37 5 .u8 1 rfl Try.underlying37 info5 (by omega) (.slice A5 (1 :: D.take (32 * i)).length c5) (1 :: D.take (32 * i)) ds (some ⟨wr.heap.size, 0, none⟩) 32 32 rfl rfl oC rC (F.out.2.trans (bC.mono hz)) (Nat.le_trans hz bC.size) (by simp; omega) ?_; intro v6 w6 hown6 hb6 hg6 hat6))
      refine ⟨⟨i + 1, by omega, by go_num, ?_, hb6⟩, by simp [intOf]; omega⟩
      rw [e] at hown6; exact hown6
    · obtain rfl : i = 16 := by omega
      rw [show ((16 : Nat) : Int) = 16 from rfl]
      have hfull : D.take (32 * 16) = D := List.take_of_length_le (by omega)
      rw [hfull] at hown
      rw [← hL.out] at hown
      have hLl : RowKit.Hid (L.length = 513) := Lib.hid (by rw [hL.out]; simp [hl])
      have hLb : ∀ x ∈ L, 0 ≤ x ∧ x ≤ 255 := by
        intro x hx
        rw [hL.out] at hx
        rcases List.mem_cons.1 hx with h | h
        · omega
        · exact hD x h
      obtain ⟨A5, c5, rfl, hc5, hr5, -⟩ := own_shape hown
      obtain ⟨w4, hw4⟩ : ∃ w4, RowKit.Hid (w4 = wr.alloc (.cells #[.slice A5 L.length c5] 37)) := ⟨_, Lib.hid rfl⟩
      have b4 : Below wr.heap.size wr w4 := by rw [hw4.out]; exact (Below.refl _ _).alloc (Nat.le_refl _) _
      have p4 : w4.cell? ⟨wr.heap.size, 0, none⟩ = some (.slice A5 L.length c5) := by rw [hw4.out]; exact cell_of_row _ wr.heap.size 0 _ _ _ (heap_alloc_new wr _)
      have r4 := hr5.below b4
      have t4 := (b4.block (w.heap.size + 1) (by omega)).trans ((hb.block (w.heap.size + 1) (by omega)).trans G.out.2.1)
      have lt4 : w.heap.size + 1 < w4.heap.size := by have := b4.size; omega
      have k4 : Below w.heap.size w w4 := G.out.2.2.1.trans ((hb.mono (by omega)).trans (b4.mono (by omega)))
      clear hown hb hr5
      go_upto_region 8 with (fail)
      go_wp2_with (first
        | (go_at_call 12; rw [← hw4.out]; refine (one_any w4 ⟨wr.heap.size, 0, none⟩ 1 A5 c5 L p4 r4 hc5 hLb (by have := hLl.out; omega)).mono ?_; rintro e wd ⟨rfl, hbd⟩)
        | (refine wpList_store_rowTo rfl 23 (.tmp 2) (.tmp 19) rfl rfl (w.heap.size + 1) (Row32 (shaF L) 32) rfl rfl 23 _ ((hbd.block (w.heap.size + 1) lt4).trans t4) (by kernel_rfl) (by kernel_rfl) (by kernel_rfl) ?_; refine abs_list ?_; intro we hwe))
      have hg : we.heap[w.heap.size + 1]? = some (.cells (Row32 (shaF L) 32) 23 (0, 0)) := by
        rw [hwe]; exact setRow_heap _ _ _ _ _ _ ((hbd.block (w.heap.size + 1) lt4).trans t4)
      have hbe : Below w.heap.size w we := by rw [hwe]; exact below_setRow (k4.trans (hbd.mono k4.size)) (by omega) _
      exact bodyPost_ret (results_cell_row (P := Try.prog) rfl _ _ (w.heap.size + 1) 23 _ (0, 0) _ rfl hg Try.underlying23 rfl (by kernel_rfl)) rfl ⟨rfl, hbe⟩
end Go.Proofs.Ytcjhephlhgpfkaa.Sha

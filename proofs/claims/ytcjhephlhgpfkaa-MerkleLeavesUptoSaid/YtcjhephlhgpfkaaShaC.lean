/- What is proved: the contracts of (words).laid and sha.begin; the conditions stand in each theorem. -/
import Derived.Test.YtcjhephlhgpfkaaShaA
import Derived.Test.YtcjhephlhgpfkaaShaC0
import Derived.Deep.DeepCutAuto
import Derived.Deep.CutBlock
namespace Go.Proofs.Ytcjhephlhgpfkaa.Sha
open Go.RowKit
theorem index8 (x : Nat → Int) (i : Nat) (h : i < 8) (w : World) : (Instr.index 58 (.agg (S8 x)) (.int .i64 i)).run Try.prog w = .ok (.int .u32 (x i)) w := by
  have hi : i = 0 ∨ i = 1 ∨ i = 2 ∨ i = 3 ∨ i = 4 ∨ i = 5 ∨ i = 6 ∨ i = 7 := by omega
  rcases hi with rfl | rfl | rfl | rfl | rfl | rfl | rfl | rfl <;> rfl
set_option maxRecDepth 100000 in
set_option maxHeartbeats 4000000 in
theorem laid_any (x : Nat → Int) (w : World) :
    Calls Try.prog 28 #[.agg (S8 x)] w fun e w' => e = .returned (.agg (Row32 (byteS x) 32)) ∧ Below w.heap.size w w' := by
  go_enter Try.func28, Try.ntmps28
  go_wp2_with (first
    | (refine wpList_load_row rfl 58 (.tmp 1) rfl w.heap.size rfl 58 (S8 x) (0, 0) _ (alloc3 rfl).1 Try.underlying58 rfl (by kernel_rfl) ?_))
  refine abs_world ?_
  intro w3 hw3
  obtain ⟨hN0, hN1, hN2, hb3, hz3⟩ := alloc3 hw3
  replace hN1 : w3.heap[w.heap.size + 1]? = some (.cells (Row32 (byteS x) 0) 23 (0, 0)) := hN1
  replace hN2 : w3.heap[w.heap.size + 2]? = some (.cells (Row32 (byteS x) 0) 23 (0, 0)) := hN2
  clear hw3 hN0 hz3
  go_loopw [7] (fun v wr => ∃ i : Nat, i ≤ 8 ∧ v = .int .i64 i ∧ wr.heap[w.heap.size + 1]? = some (.cells (Row32 (byteS x) 0) 23 (0, 0)) ∧ wr.heap[w.heap.size + 2]? = some (.cells (Row32 (byteS x) (4 * i)) 23 (0, 0)) ∧ Below w.heap.size w wr)
    (fun v _ => 8 - (intOf v).toNat)
  case atStart => exact ⟨0, by omega, rfl, hN1, hN2, hb3⟩
  case round =>
    clear hN1 hN2 hb3
    obtain ⟨i, hi, rfl, g1, g2, g3⟩ := hrel
    by_cases hlt8 : i < 8
    · have hidx := index8 x i hlt8
      have cz : ∀ j, j < 32 → 4 * i ≤ j → wr.cell? ⟨w.heap.size + 1 + 1, j, none⟩ = some (.int .u8 0) := by
        intro j hj h4
        rw [cell_of_row wr (w.heap.size + 2) j _ _ _ g2, row32_at _ _ _ hj, if_neg (by omega)]
      have c0 := cz (4 * i) (by omega) (by omega)
      have c1 := cz (4 * i + 1) (by omega) (by omega)
      have c2 := cz (4 * i + 2) (by omega) (by omega)
      have c3 := cz (4 * i + 3) (by omega) (by omega)
      have fz : ∀ j, wr.frozen? ⟨w.heap.size + 1 + 1, j, none⟩ = false := fun j => frozen_of_row wr (w.heap.size + 2) j _ _ g2
      have f0 := fz (4 * i)
      have f1 := fz (4 * i + 1)
      have f2 := fz (4 * i + 2)
      have f3 := fz (4 * i + 3)
      have G := Lib.hid (And.intro g1 (And.intro g2 g3))
      clear g1 g2 g3 cz fz
      have l0 : (0 : Int) ≤ (i : Int) := by omega
      have u0 : (i : Int) < 8 := by omega
      go_wp2
      refine ⟨⟨i + 1, by omega, by go_num, ?_, ?_, ?_⟩, by simp [intOf]; omega⟩
      · rw [heap_setCell_other _ _ _ _ (by simp), heap_setCell_other _ _ _ _ (by simp), heap_setCell_other _ _ _ _ (by simp), heap_setCell_other _ _ _ _ (by simp)]; exact G.out.1
      · exact lay4 hlt8 G.out.2.1
      · exact ((((G.out.2.2.setCell (by simp; omega) _).setCell (by simp; omega) _).setCell (by simp; omega) _).setCell (by simp; omega) _)
    · obtain rfl : i = 8 := by omega
      rw [show ((8 : Nat) : Int) = 8 from rfl]
      have G := Lib.hid (And.intro g1 (And.intro g2 g3))
      clear g1 g2 g3 hlt8 hi
      go_wp2_with (first
        | (refine wpList_load_row rfl 23 (.tmp 3) rfl (w.heap.size + 2) rfl 23 (Row32 (byteS x) 32) (0, 0) _ G.out.2.1 Try.underlying23 rfl (by kernel_rfl) ?_)
        | (refine wpList_store_rowTo rfl 23 (.tmp 2) (.tmp 38) rfl rfl (w.heap.size + 1) (Row32 (byteS x) 32) rfl rfl 23 _ G.out.1 (by kernel_rfl) (by kernel_rfl) (by kernel_rfl) ?_; refine abs_list ?_; intro wc hwc))
      have hg : wc.heap[w.heap.size + 1]? = some (.cells (Row32 (byteS x) 32) 23 (0, 0)) := by
        rw [hwc]; exact setRow_heap _ _ _ _ _ _ G.out.1
      have hb : Below w.heap.size w wc := by rw [hwc]; exact below_setRow G.out.2.2 (by omega) _
      exact bodyPost_ret (results_cell_row (P := Try.prog) rfl _ _ (w.heap.size + 1) 23 _ (0, 0) _ rfl hg Try.underlying23 rfl (by kernel_rfl)) rfl ⟨rfl, hb⟩
end Go.Proofs.Ytcjhephlhgpfkaa.Sha

/- What is proved: the walk of the law MerkleNames: it returns true; no condition. -/
import Derived.Test.YtcjhephlhgpfkaaShaL0
import Derived.Test.YtcjhephlhgpfkaaPMerkleNamesx1
import Derived.Deep.DeepCutAuto
import Derived.Deep.CutBlock
namespace Go.Proofs.Ytcjhephlhgpfkaa.Sha
open Go.RowKit Go.Proofs.YtcjhephlhgpfkaaW.PrintWords Go.Proofs.YtcjhephlhgpfkaaW.PrintLast
set_option linter.unusedVariables false
set_option linter.unusedSimpArgs false
set_option maxRecDepth 100000 in
set_option maxHeartbeats 8000000 in
theorem names_walk (w : World) : Calls Try.prog 4 #[] w fun e w' => e = .returned (.bool true) ∧ Below w.heap.size w w' := by
  obtain ⟨L, hL⟩ : ∃ L, RowKit.Hid (L = [(0 : Int)]) := ⟨_, Lib.hid rfl⟩
  have q0 : shaF L 0 = 110 := by rw [hL.out, sha0 0 (by decide)]; decide
  have q1 : shaF L 1 = 52 := by rw [hL.out, sha0 1 (by decide)]; decide
  have q2 : shaF L 2 = 11 := by rw [hL.out, sha0 2 (by decide)]; decide
  have q31 : shaF L 31 = 29 := by rw [hL.out, sha0 31 (by decide)]; decide
  go_enter Try.func4, Try.ntmps4
  go_upto_region 2 with (first
    | (go_at_call 8; refine (PMerkleNames.hawserlaw10_num.calls 100 100 _ rfl).mono ?_; rintro e w2 ⟨rfl, hd2⟩; replace hd2 := hd2.below)
    | (go_at_call 8; refine (PMerkleNames.hawserlaw10_num.calls 101 101 _ rfl).mono ?_; rintro e w3 ⟨rfl, hd3⟩; replace hd3 := hd3.below)
    | (go_at_call 8; refine (PMerkleNames.hawserlaw10_num.calls 102 102 _ rfl).mono ?_; rintro e w4 ⟨rfl, hd4⟩; replace hd4 := hd4.below))
  have b4 : Below w.heap.size w w4 := (hd2.trans (hd3.mono hd2.size)).trans (hd4.mono (Nat.le_trans hd2.size hd3.size))
  clear hd2 hd3 hd4
  go_upto_region 3 with (first
    | (go_at_call 9; refine (leaf0_any _ L hL).mono ?_; rintro e w5 ⟨rfl, hb5⟩)
    | (refine wpList_store_rowTo rfl 23 (.tmp 2) (.tmp 15) rfl rfl w5.heap.size (Row32 (shaF L) 32) rfl rfl 23 _ (heap_alloc_new w5 _) (by kernel_rfl) (by kernel_rfl) (by kernel_rfl) ?_; refine abs_list ?_; intro w6 hw6))
  have g6 : w6.heap[w5.heap.size]? = some (.cells (Row32 (shaF L) 32) 23 (0, 0)) := by rw [hw6]; exact setRow_heap _ _ _ _ _ _ (heap_alloc_new w5 _)
  have b6 : Below w.heap.size w w6 := by
    rw [hw6]
    exact below_setRow ((b4.trans (hb5.mono b4.size)).alloc (Nat.le_trans b4.size hb5.size) _) (Nat.le_trans b4.size hb5.size) _
  have c : ∀ j v, j < 32 → shaF L j = v → w6.cell? ⟨w5.heap.size, j, none⟩ = some (.int .u8 v) := by
    intro j v hj hv
    rw [cell_of_row w6 w5.heap.size j _ _ _ g6, row32_at _ _ _ hj, if_pos hj, hv]
  have c0 := c 0 _ (by omega) q0
  have c1 := c 1 _ (by omega) q1
  have c2 := c 2 _ (by omega) q2
  have c31 := c 31 _ (by omega) q31
  clear hw6 b4 hb5 c g6
  go_wp2
  go_ret
  exact ⟨rfl, b6⟩
end Go.Proofs.Ytcjhephlhgpfkaa.Sha

/- What is proved: contracts of the reference's turn, rounds and begin; the conditions stand in each theorem. -/
import Derived.Test.YtcjhephlhgpfkaaShaD
import Derived.Test.YtcjhephlhgpfkaaRSha0
namespace Go.Proofs.Ytcjhephlhgpfkaa.Sha
open Go.RowKit
set_option maxRecDepth 100000 in
theorem rturn_any (x n : Int) (w : World) (hn0 : 0 ≤ n) (hn : n ≤ 32) :
    Calls Try.prog 35 #[.int .u32 x, .int .i64 n] w fun e w' => e = .returned (.int .u32 (turnI x n)) ∧ ∃ q, w' = w.drewN q := by
  go_enter Try.func35, Try.ntmps35
  go_wp2
  go_quiet (fail)
  go_wp2
  go_ret
  exact ⟨rfl, _, rfl⟩
set_option maxRecDepth 100000 in
set_option maxHeartbeats 1000000 in
theorem rrounds_any (w : World) :
    Calls Try.prog 36 #[] w fun e w' => e = .returned (.agg (Row64 rk 64)) ∧ Below w.heap.size w w' := by
  rw [row_rk]
  go_enter Try.func36, Try.ntmps36
  go_wp2_with (first
    | (with_reducible refine gate_dst (N := 1) rfl ?_; refine wpList_buildFlatArrTo rfl 69 56 64 _ rfl .u32 rkL (some 1) rfl Try.underlying69 (by kernel_rfl) (by kernel_rfl) (by kernel_rfl) ?_; refine wpList_store_rowTo rfl 69 (.tmp 0) (.tmp 1) rfl rfl w.heap.size (rkL.map (Value.int .u32)).toArray rfl rfl 69 _ (heap_alloc_new w _) (by kernel_rfl) (by kernel_rfl) (by kernel_rfl) ?_; refine abs_list ?_; intro w2 hw2))
  have hg : w2.heap[w.heap.size]? = some (.cells (rkL.map (Value.int .u32)).toArray 69 (0, 0)) := by rw [hw2]; exact setRow_heap _ _ _ _ _ _ (heap_alloc_new w _)
  have hb : Below w.heap.size w w2 := by rw [hw2]; exact below_setRow ((Below.refl _ _).alloc (Nat.le_refl _) _) (Nat.le_refl _) _
  exact bodyPost_ret (results_cell_row (P := Try.prog) rfl _ _ w.heap.size 69 _ (0, 0) _ rfl hg Try.underlying69 rfl (by kernel_rfl)) rfl ⟨rfl, hb⟩
set_option maxRecDepth 100000 in
set_option maxHeartbeats 1000000 in
theorem rbegin_any (w : World) :
    Calls Try.prog 29 #[] w fun e w' => e = .returned (.agg (S8 beginS)) ∧ Below w.heap.size w w' := by
  rw [s8_begin]
  go_enter Try.func29, Try.ntmps29
  go_wp2_with (first
    | (with_reducible refine gate_dst (N := 1) rfl ?_; refine wpList_buildFlatArrTo rfl 57 56 8 _ rfl .u32 beginL (some 1) rfl Try.underlying57 (by kernel_rfl) (by kernel_rfl) (by kernel_rfl) ?_; refine wpList_store_rowTo rfl 57 (.tmp 0) (.tmp 1) rfl rfl w.heap.size (beginL.map (Value.int .u32)).toArray rfl rfl 57 _ (heap_alloc_new w _) (by kernel_rfl) (by kernel_rfl) (by kernel_rfl) ?_; refine abs_list ?_; intro w2 hw2))
  have hg : w2.heap[w.heap.size]? = some (.cells (beginL.map (Value.int .u32)).toArray 57 (0, 0)) := by rw [hw2]; exact setRow_heap _ _ _ _ _ _ (heap_alloc_new w _)
  have hb : Below w.heap.size w w2 := by rw [hw2]; exact below_setRow ((Below.refl _ _).alloc (Nat.le_refl _) _) (Nat.le_refl _) _
  exact bodyPost_ret (results_cell_row (P := Try.prog) rfl _ _ w.heap.size 57 _ (0, 0) _ rfl hg Try.underlying57 rfl (by kernel_rfl)) rfl ⟨rfl, hb⟩
end Go.Proofs.Ytcjhephlhgpfkaa.Sha

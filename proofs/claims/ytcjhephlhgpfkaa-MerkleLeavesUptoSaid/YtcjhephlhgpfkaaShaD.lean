/- What is proved: the contracts of sha.begin and sha.New; the conditions stand in each theorem. -/
import Derived.Test.YtcjhephlhgpfkaaShaC
namespace Go.Proofs.Ytcjhephlhgpfkaa.Sha
open Go.RowKit
set_option maxRecDepth 100000 in
set_option maxHeartbeats 1000000 in
theorem begin_any (w : World) :
    Calls Try.prog 26 #[] w fun e w' => e = .returned (.agg (S8 beginS)) ∧ Below w.heap.size w w' := by
  rw [s8_begin]
  go_enter Try.func26, Try.ntmps26
  go_wp2_with (first
    | (with_reducible refine gate_dst (N := 1) rfl ?_; refine wpList_buildFlatArrTo rfl 58 56 8 _ rfl .u32 beginL (some 1) rfl Try.underlying58 (by kernel_rfl) (by kernel_rfl) (by kernel_rfl) ?_; refine wpList_store_rowTo rfl 58 (.tmp 0) (.tmp 1) rfl rfl w.heap.size (beginL.map (Value.int .u32)).toArray rfl rfl 58 _ (heap_alloc_new w _) (by kernel_rfl) (by kernel_rfl) (by kernel_rfl) ?_; refine abs_list ?_; intro w2 hw2))
  have hg : w2.heap[w.heap.size]? = some (.cells (beginL.map (Value.int .u32)).toArray 58 (0, 0)) := by rw [hw2]; exact setRow_heap _ _ _ _ _ _ (heap_alloc_new w _)
  have hb : Below w.heap.size w w2 := by rw [hw2]; exact below_setRow ((Below.refl _ _).alloc (Nat.le_refl _) _) (Nat.le_refl _) _
  exact bodyPost_ret (results_cell_row (P := Try.prog) rfl _ _ w.heap.size 58 _ (0, 0) _ rfl hg Try.underlying58 rfl (by kernel_rfl)) rfl ⟨rfl, hb⟩
def NewPost (w : World) (e : Ending) (w' : World) : Prop := ∃ g, e = .returned (.pointer (some ⟨g, 0, none⟩)) ∧ w.heap.size ≤ g ∧ w'.heap[g]? = some (.cells (Hc beginS (.slice none 0 0) 0) 61 (0, 0)) ∧ Below w.heap.size w w'
set_option maxRecDepth 100000 in
set_option maxHeartbeats 1000000 in
theorem new_any (w : World) : Calls Try.prog 17 #[] w (NewPost w) := by
  go_enter Try.func17, Try.ntmps17
  go_wp2_with (go_at_call 26; refine (begin_any _).mono ?_; rintro e w2 ⟨rfl, hb2⟩)
  go_ret
  have hz := hb2.size
  exact ⟨w2.heap.size, rfl, hz, heap_alloc_new w2 _, (hb2).alloc hz _⟩
end Go.Proofs.Ytcjhephlhgpfkaa.Sha

/- What is proved: contracts of sha.turn and sha.rounds, and small words on worlds; the conditions stand in each theorem. -/
import Derived.Test.YtcjhephlhgpfkaaProg
import Derived.Test.YtcjhephlhgpfkaaSha0
import Derived.WalkKit
import Derived.Lib.Hide
import Derived.BigQuiet
import Derived.Deep.QuietTactic
import Derived.Laws.Tables
import Derived.Laws.Rows
import Derived.Great.BuildSlice
namespace Go.Proofs.Ytcjhephlhgpfkaa.Sha
open Go.RowKit
theorem below_setRow {B : Nat} {a w : World} (h : Below B a w) {g : Nat} (hg : B ≤ g) (cs : Array Value) : Below B a (w.setRow g cs) :=
  ⟨h.os, h.tape, h.output, by rw [setRow_size]; exact h.size, fun k hk => by
    rw [← h.block k hk]
    unfold World.setRow
    simp only [Array.getElem?_modify]
    rw [if_neg (by omega)]⟩
theorem heap_setRow_other (w : World) (g : Nat) (cs : Array Value) (k : Nat) (h : k ≠ g) : (w.setRow g cs).heap[k]? = w.heap[k]? := by
  unfold World.setRow
  simp only [Array.getElem?_modify]
  rw [if_neg (Ne.symm h)]
theorem abs_list {P : Program} {ops : Array Oper} {rest : List Oper} {Q : Exit → Act → World → Prop} {a : Act} {w : World} (h : ∀ w', w' = w → wpList P ops Q rest a w') : wpList P ops Q rest a w := h w rfl
theorem gate_dst {P : Program} {ops : Array Oper} {rest : List Oper} {Q : Exit → Act → World → Prop} {a : Act} {w : World} {o : Oper} {N : Tmp} (_hd : o.dst = some N) (h : wpList P ops Q (o :: rest) a w) : wpList P ops Q (o :: rest) a w := h
set_option maxRecDepth 100000 in
theorem turn_any (x n : Int) (w : World) (hn0 : 0 ≤ n) (hn : n ≤ 32) :
    Calls Try.prog 33 #[.int .u32 x, .int .i64 n] w fun e w' => e = .returned (.int .u32 (turnI x n)) ∧ ∃ q, w' = w.drewN q := by
  go_enter Try.func33, Try.ntmps33
  go_wp2
  go_quiet (fail)
  go_wp2
  go_ret
  exact ⟨rfl, _, rfl⟩
theorem abs_world {P : Program} {c : Code} {Q : Exit → Act → World → Prop} {a : Act} {w : World} (h : ∀ w', w' = w → Code.wp P c Q a w') : Code.wp P c Q a w := h w rfl
theorem below_drewN {B : Nat} {a w : World} (h : Below B a w) (n : Nat) : Below B a (w.drewN n) := ⟨h.os, h.tape, h.output, h.size, h.block⟩
theorem add_pos (a : Addr) (n : Nat) (h : n ≠ 0) : a.add n = ⟨a.block, a.off + n, none⟩ := by unfold Addr.add; rw [if_neg h]
theorem block_add (a : Addr) (n : Nat) : (a.add n).block = a.block := by unfold Addr.add; split <;> rfl
theorem alloc3 {w W : World} {A B C : Obj} (h : W = ((w.alloc A).alloc B).alloc C) :
    W.heap[w.heap.size]? = some A ∧ W.heap[w.heap.size + 1]? = some B ∧ W.heap[w.heap.size + 2]? = some C ∧ Below w.heap.size w W ∧ W.heap.size = w.heap.size + 3 := by
  subst h
  refine ⟨?_, ?_, ?_, (((Below.refl _ _).alloc (Nat.le_refl _) _).alloc (by simp) _).alloc (by simp; omega) _, by simp⟩
  · rw [Below.heap_alloc _ _ _ (by simp; omega), Below.heap_alloc _ _ _ (by simp), heap_alloc_new]
  · have h := heap_alloc_new (w.alloc A) B
    simp only [World.size_alloc] at h
    rw [Below.heap_alloc _ _ _ (by simp), h]
  · have h := heap_alloc_new ((w.alloc A).alloc B) C
    simpa only [World.size_alloc] using h
theorem abs3 {R : Exit → Act → World → Prop} {e : Exit} {a : Act} {w : World} (h : ∀ w', w' = w → R e a w') : R e a w := h w rfl
set_option maxRecDepth 100000 in
set_option maxHeartbeats 1000000 in
theorem rounds_any (w : World) :
    Calls Try.prog 34 #[] w fun e w' => e = .returned (.agg (Row64 rk 64)) ∧ Below w.heap.size w w' := by
  rw [row_rk]
  go_enter Try.func34, Try.ntmps34
  go_wp2_with (first
    | (with_reducible refine gate_dst (N := 1) rfl ?_; refine wpList_buildFlatArrTo rfl 69 56 64 _ rfl .u32 rkL (some 1) rfl Try.underlying69 (by kernel_rfl) (by kernel_rfl) (by kernel_rfl) ?_; refine wpList_store_rowTo rfl 69 (.tmp 0) (.tmp 1) rfl rfl w.heap.size (rkL.map (Value.int .u32)).toArray rfl rfl 69 _ (heap_alloc_new w _) (by kernel_rfl) (by kernel_rfl) (by kernel_rfl) ?_; refine abs_list ?_; intro w2 hw2))
  have hg : w2.heap[w.heap.size]? = some (.cells (rkL.map (Value.int .u32)).toArray 69 (0, 0)) := by rw [hw2]; exact setRow_heap _ _ _ _ _ _ (heap_alloc_new w _)
  have hb : Below w.heap.size w w2 := by rw [hw2]; exact below_setRow ((Below.refl _ _).alloc (Nat.le_refl _) _) (Nat.le_refl _) _
  exact bodyPost_ret (results_cell_row (P := Try.prog) rfl _ _ w.heap.size 69 _ (0, 0) _ rfl hg Try.underlying69 rfl (by kernel_rfl)) rfl ⟨rfl, hb⟩
end Go.Proofs.Ytcjhephlhgpfkaa.Sha

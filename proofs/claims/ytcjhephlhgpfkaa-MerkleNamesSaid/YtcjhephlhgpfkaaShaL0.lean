/- What is proved: the contract of merkle.Leaf of no rows; the conditions stand in the theorem. -/
import Derived.Test.YtcjhephlhgpfkaaShaG
import Derived.Test.YtcjhephlhgpfkaaShaN
import Derived.Deep.DeepCutAuto
import Derived.Deep.CutBlock
namespace Go.Proofs.Ytcjhephlhgpfkaa.Sha
open Go.RowKit Go.Proofs.YtcjhephlhgpfkaaW.PrintWords Go.Proofs.YtcjhephlhgpfkaaW.PrintLast
set_option linter.unusedVariables false
set_option linter.unusedSimpArgs false
set_option maxRecDepth 100000 in
set_option maxHeartbeats 8000000 in
theorem leaf0_any (w : World) (L : List Int) (hL : RowKit.Hid (L = [0])) :
    Calls Try.prog 9 #[.slice none 0 0] w fun e w' => e = .returned (digV L) ∧ Below w.heap.size w w' := by
  go_enter Try.func9, Try.ntmps9
  go_upto_region 1 with (fail)
  refine abs_world ?_
  intro w1 hw1
  have hb1 : Below w.heap.size w w1 := by rw [hw1]; exact (Below.refl _ _).alloc (Nat.le_refl _) _
  have z1 : w1.heap.size = w.heap.size + 1 := by rw [hw1]; exact Array.size_push _
  have t1 : w1.heap[w.heap.size]? = some (.cells (Row32 (fun _ => 0) 0) 23 (0, 0)) := by rw [hw1]; exact heap_alloc_new w _
  clear hw1
  go_upto_region 3 with (fail)
  refine abs_world ?_
  intro w2 hw2
  have hb2 : Below w1.heap.size w1 w2 := by rw [hw2]; exact (Below.refl _ _).alloc (Nat.le_refl _) _
  have h2 : w2.heap[w1.heap.size]? = some (.cells #[.int .u8 0] 5 (0, 0)) := by rw [hw2]; exact heap_alloc_new w1 _
  clear hw2
  have t2 := (hb2.block w.heap.size (by omega)).trans t1
  have b2 : Below w.heap.size w w2 := hb1.trans (hb2.mono (by omega))
  have e2 : w2.cell? ⟨w.heap.size + 1, 0, none⟩ = some (.int .u8 0) := by rw [← z1]; exact cell_of_row w2 w1.heap.size 0 _ _ _ h2
  have l2 : w.heap.size + 1 < w2.heap.size := by rcases Nat.lt_or_ge (w.heap.size + 1) w2.heap.size with h | h; exact h; rw [z1, Array.getElem?_eq_none h] at h2; cases h2
  have G := Lib.hid (And.intro t2 (And.intro b2 (And.intro e2 l2)))
  clear hb1 hb2 z1 t1 h2 t2 b2 e2 l2
  go_loopw [3, 9] (fun v3 v wr => v3 = .slice (some ⟨w.heap.size + 1, 0, none⟩) 1 1 ∧ v = .int .i64 0 ∧ wr = w2) (fun _ v _ => 0)
  case atStart => exact ⟨rfl, rfl, rfl⟩
  case round =>
    obtain ⟨rfl, rfl, rfl⟩ := hrel
    have lt0 : w.heap.size < wr.heap.size := by have := G.out.2.2.2; omega
    have hL1 : L.length = 1 := by rw [hL.out]; rfl
    have hLb : ∀ x ∈ L, 0 ≤ x ∧ x ≤ 255 := by
      intro x hx
      rw [hL.out] at hx
      simp at hx
      omega
    have r3 : ReadsInt wr .u8 (some ⟨w.heap.size + 1, 0, none⟩) L.length L := by
      refine ⟨rfl, by omega, fun _ => ⟨_, rfl, fun j hj => ?_⟩⟩
      obtain rfl : j = 0 := by omega
      rw [hL.out]
      exact G.out.2.2.1
    obtain ⟨w4, hw4⟩ : ∃ w4, RowKit.Hid (w4 = wr.alloc (.cells #[.slice (some ⟨w.heap.size + 1, 0, none⟩) 1 1] 37)) := ⟨_, Lib.hid rfl⟩
    have b4 : Below wr.heap.size wr w4 := by rw [hw4.out]; exact (Below.refl _ _).alloc (Nat.le_refl _) _
    have p4 : w4.cell? ⟨wr.heap.size, 0, none⟩ = some (.slice (some ⟨w.heap.size + 1, 0, none⟩) 1 1) := by rw [hw4.out]; exact cell_of_row _ wr.heap.size 0 _ _ _ (heap_alloc_new wr _)
    have r4 := r3.below b4
    have t4 := (b4.block w.heap.size lt0).trans G.out.1
    have lt4 : w.heap.size < w4.heap.size := Nat.lt_of_lt_of_le lt0 b4.size
    have k4 : Below w.heap.size w w4 := G.out.2.1.trans (b4.mono (Nat.le_of_lt lt0))
    go_upto_region 8 with (fail)
    go_wp2_with (first

      | (go_at_call 12; rw [← hw4.out]; refine (one_any w4 ⟨wr.heap.size, 0, none⟩ 1 (some ⟨w.heap.size + 1, 0, none⟩) 1 L (by rw [hL1]; exact p4) r4 (by omega) hLb (by omega)).mono ?_; rintro e wd ⟨rfl, hbd⟩)
      | (refine wpList_store_rowTo rfl 23 (.tmp 2) (.tmp 30) rfl rfl w.heap.size (Row32 (shaF L) 32) rfl rfl 23 _ ((hbd.block w.heap.size lt4).trans t4) (by kernel_rfl) (by kernel_rfl) (by kernel_rfl) ?_; refine abs_list ?_; intro we hwe))
    have hg : we.heap[w.heap.size]? = some (.cells (Row32 (shaF L) 32) 23 (0, 0)) := by
      rw [hwe]; exact setRow_heap _ _ _ _ _ _ ((hbd.block w.heap.size lt4).trans t4)
    have hb : Below w.heap.size w we := by rw [hwe]; exact below_setRow (k4.trans (hbd.mono k4.size)) (Nat.le_refl _) _
    exact bodyPost_ret (results_cell_row (P := Try.prog) rfl _ _ w.heap.size 23 _ (0, 0) _ rfl hg Try.underlying23 rfl (by kernel_rfl)) rfl ⟨rfl, hb⟩
end Go.Proofs.Ytcjhephlhgpfkaa.Sha

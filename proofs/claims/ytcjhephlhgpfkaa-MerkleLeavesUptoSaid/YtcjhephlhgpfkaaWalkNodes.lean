/- What is proved: the walk of the law MerkleNodes: it returns true; the conditions stand in the theorem. -/
import Derived.Test.YtcjhephlhgpfkaaRShaNode
import Derived.Test.YtcjhephlhgpfkaaEql
import Derived.Deep.DeepCutAuto
import Derived.Deep.CutBlock
namespace Go.Proofs.Ytcjhephlhgpfkaa.Sha
open Go.RowKit Go.Proofs.YtcjhephlhgpfkaaW.PrintWords Go.Proofs.YtcjhephlhgpfkaaW.PrintLast
set_option linter.unusedVariables false
set_option linter.unusedSimpArgs false
theorem lt_of {w : World} {g : Nat} {o : Obj} (h : w.heap[g]? = some o) : g < w.heap.size := by
  rcases Nat.lt_or_ge g w.heap.size with h1 | h1
  · exact h1
  · rw [Array.getElem?_eq_none h1] at h; cases h
set_option maxRecDepth 100000 in
set_option maxHeartbeats 8000000 in
theorem nodes_walk (w : World) (D : List Int) (hl : D.length = 512) (hD : ∀ x ∈ D, 0 ≤ x ∧ x ≤ 255) :
    Calls Try.prog 3 #[.agg (D512 D)] w fun e w' => e = .returned (.bool true) ∧ Below w.heap.size w w' := by
  obtain ⟨L, hL⟩ : ∃ L, RowKit.Hid (L = (1 : Int) :: D) := ⟨_, Lib.hid rfl⟩
  have HL := Lib.hid hl
  clear hl
  go_enter Try.func3, Try.ntmps3
  go_upto_region 1 with (fail)
  refine abs_world ?_
  intro w1 hw1
  have hb1 : Below w.heap.size w w1 := by rw [hw1]; exact (Below.refl _ _).alloc (Nat.le_refl _) _
  have a1 : w1.heap[w.heap.size]? = some (.cells (D512 D) 24 (0, 0)) := by rw [hw1]; exact heap_alloc_new w _
  clear hw1
  refine start_ (n := 6) (S := (fun W => W.heap[w.heap.size]? = some (.cells (D512 D) 24 (0, 0)) ∧ Below w.heap.size w W)) (ds := []) #[false, false, false, false, false, false] (by kernel_rfl) rfl rfl ⟨a1, hb1.trans ((Below.refl _ _).drew)⟩ (fun hHeld => ?_)
  refine take_ (i := 0) (N := some 3) (v := .agg (D512 D)) (a' := ?_) #[true, false, false, false, false, false] rfl rfl (by kernel_rfl) (fun _ _ _ h => h) (Or.inl ⟨by rfl, fun W hW => yields_load _ _ (.tmp 1) W w.heap.size 24 _ rfl rfl (load24 W _ D HL.out hW.1)⟩) hHeld ?_ ?_
  rotate_left
  · simp only [Act.put, List.setIfInBounds_toArray, List.set_cons_zero, List.set_cons_succ, i64_w, i32_w]
    rfl
  refine take_ (i := 2) (N := some 5) (v := .agg (D512 D)) (a' := ?_) #[true, false, true, false, false, false] rfl rfl (by kernel_rfl) (fun _ _ _ h => h) (Or.inl ⟨by rfl, fun W hW => yields_load _ _ (.tmp 1) W w.heap.size 24 _ rfl rfl (load24 W _ D HL.out hW.1)⟩) hHeld ?_ ?_
  rotate_left
  · simp only [Act.put, List.setIfInBounds_toArray, List.set_cons_zero, List.set_cons_succ, i64_w, i32_w]
    rfl
  refine one_ (i := 1) (N := some 4) #[true, true, true, false, false, false] rfl rfl (by kernel_rfl) (by decide) (fun K hK => ?_)
  refine goes_ Try.func6 (by kernel_rfl) rfl #[.agg (D512 D)] (by rfl) rfl rfl (by (try simp only [List.map_toArray, List.map_cons, List.map_nil]); first | done | rfl) ?_
  refine (node_any _ D L hL HL.out hD).mono ?_
  rintro e w' ⟨rfl, hb⟩
  refine ⟨_, rfl, ?_⟩
  refine hK.out _ _ ⟨(hb.block _ (lt_of hHeld.1)).trans hHeld.1, hHeld.2.trans (hb.mono (Nat.le_of_lt (lt_of hHeld.1)))⟩ (fun hHeld => ?_)
  clear hK K
  refine norm_ (a' := ?_) ?_ ?_
  rotate_left
  · show Act.put _ (some 4) _ = _
    simp only [Act.put, List.setIfInBounds_toArray, List.set_cons_zero, List.set_cons_succ, i64_w, i32_w]
    rfl
  refine one_ (i := 3) (N := some 6) #[true, true, true, true, false, false] rfl rfl (by kernel_rfl) (by decide) (fun K hK => ?_)
  refine goes_ Try.func7 (by kernel_rfl) rfl #[.agg (D512 D)] (by rfl) rfl rfl (by (try simp only [List.map_toArray, List.map_cons, List.map_nil]); first | done | rfl) ?_
  refine (rnode_any _ D L hL HL.out hD).mono ?_
  rintro e w' ⟨rfl, hb⟩
  refine ⟨_, rfl, ?_⟩
  refine hK.out _ _ ⟨(hb.block _ (lt_of hHeld.1)).trans hHeld.1, hHeld.2.trans (hb.mono (Nat.le_of_lt (lt_of hHeld.1)))⟩ (fun hHeld => ?_)
  clear hK K
  refine norm_ (a' := ?_) ?_ ?_
  rotate_left
  · show Act.put _ (some 6) _ = _
    simp only [Act.put, List.setIfInBounds_toArray, List.set_cons_zero, List.set_cons_succ, i64_w, i32_w]
    rfl
  refine pure_ (i := 4) (N := (some 7)) (v := .bool true) (a' := ?_) #[true, true, true, true, true, false] rfl rfl (by kernel_rfl) (fun _ _ _ h => h) (Or.inl ⟨by rfl, ?_⟩) ?_ ?_
  · intro w'
    exact yields_eql _ _ (.tmp 4) (.tmp 6) L rfl rfl rfl w'
  rotate_left
  · simp only [Act.put, List.setIfInBounds_toArray, List.set_cons_zero, List.set_cons_succ, i64_w, i32_w]
    rfl
  refine pure_ (i := 5) (N := (some 2)) (v := .bool true) (a' := ?_) #[true, true, true, true, true, true] rfl rfl (by kernel_rfl) (fun _ _ _ h => h) (Or.inl ⟨by rfl, ?_⟩) ?_ ?_
  · intro w'
    go_simp
  rotate_left
  · simp only [Act.put, List.setIfInBounds_toArray, List.set_cons_zero, List.set_cons_succ, i64_w, i32_w]
    rfl
  refine done_ (by kernel_rfl) ?_
  go_wp2
  go_ret
  exact ⟨rfl, hHeld.2⟩
end Go.Proofs.Ytcjhephlhgpfkaa.Sha

/- What is proved: the contract of the reference's Node; the conditions stand in the theorem. -/
import Derived.Test.YtcjhephlhgpfkaaShaNode
import Derived.Deep.DeepCutAuto
import Derived.Deep.CutBlock
namespace Go.Proofs.Ytcjhephlhgpfkaa.Sha
open Go.RowKit Go.Proofs.YtcjhephlhgpfkaaW.PrintWords Go.Proofs.YtcjhephlhgpfkaaW.PrintLast
set_option linter.unusedVariables false
set_option linter.unusedSimpArgs false
theorem take_snoc (D : List Int) (m : Nat) (h : m < D.length) : (1 :: D.take m) ++ [D.getD m 0] = 1 :: D.take (m + 1) := by
  rw [List.cons_append, List.take_add_one, List.getElem?_eq_getElem h]
  simp [List.getD, List.getElem?_eq_getElem h]
theorem d512_at (D : List Int) (m : Nat) (h : m < D.length) : (D512 D)[m]? = some (.int .u8 (D.getD m 0)) := by
  simp [D512, nums, List.getD, List.getElem?_eq_getElem h]
set_option maxRecDepth 100000 in
set_option maxHeartbeats 8000000 in
theorem rnode_any (w : World) (D L : List Int) (hL : RowKit.Hid (L = (1 : Int) :: D)) (hl : D.length = 512) (hD : ∀ x ∈ D, 0 ≤ x ∧ x ≤ 255) :
    Calls Try.prog 7 #[.agg (D512 D)] w fun e w' => e = .returned (digV L) ∧ Below w.heap.size w w' := by
  have HL := Lib.hid hl
  clear hl
  go_enter Try.func7, Try.ntmps7
  go_upto_region 1 with (fail)
  refine abs_world ?_
  intro w1 hw1
  have hb1 : Below w.heap.size w w1 := by rw [hw1]; exact ((Below.refl _ _).alloc (Nat.le_refl _) _).alloc (by simp) _
  have z1 : w1.heap.size = w.heap.size + 2 := by rw [hw1]; simp [World.size_alloc]
  have a1 : w1.heap[w.heap.size]? = some (.cells (D512 D) 24 (0, 0)) := by
    rw [hw1, Below.heap_alloc _ _ _ (by simp)]; exact heap_alloc_new w _
  have t1 : w1.heap[w.heap.size + 1]? = some (.cells (Row32 (fun _ => 0) 0) 23 (0, 0)) := by
    have h := heap_alloc_new (w.alloc (.cells (D512 D) 24)) (.cells (Row32 (fun _ => 0) 0) 23 (0, 0))
    simp only [World.size_alloc] at h
    rw [hw1]; exact h
  clear hw1
  have Z1 := Lib.hid z1
  have G1 := Lib.hid (And.intro hb1 (And.intro a1 t1))
  clear hb1 a1 t1 z1
  go_upto_region 3 with (fail)
  refine abs_world ?_
  intro w3 hw3
  have hb3 : Below w1.heap.size w1 w3 := by rw [hw3]; exact (Below.refl _ _).alloc (Nat.le_refl _) _
  have o3 : w3.ownsRow w1.heap.size 5 1 (.slice (some ⟨w1.heap.size, 0, none⟩) 1 1) [(1 : Int)].length (nums .u8 [1]) := by
    have g3 : w3.heap[w1.heap.size]? = some (.cells #[.int .u8 1] 5 (0, 0)) := by rw [hw3]; exact heap_alloc_new w1 _
    exact ⟨rfl, .inr ⟨w1.heap.size, 1, _, rfl, Nat.le_refl _, g3, by decide, by decide, rfl, rfl⟩⟩
  have z1 := Z1.out
  have a3 := (hb3.block w.heap.size (by omega)).trans G1.out.2.1
  have t3 := (hb3.block (w.heap.size + 1) (by omega)).trans G1.out.2.2
  have b3 : Below w.heap.size w w3 := G1.out.1.trans (hb3.mono (by omega))
  have z3 : w.heap.size + 2 ≤ w3.heap.size := by have := hb3.size; omega
  obtain ⟨BB, hBB⟩ : ∃ BB, RowKit.Hid (BB = w1.heap.size) := ⟨_, Lib.hid rfl⟩
  have hB2 : BB = w.heap.size + 2 := by rw [hBB.out]; exact z1
  rw [← hBB.out] at o3 ⊢
  clear hw3 hb3 G1 z1 Z1
  have HB2 := Lib.hid hB2
  clear hB2
  have G := Lib.hid (And.intro a3 (And.intro t3 (And.intro b3 (And.intro z3 o3))))
  clear a3 t3 b3 z3 o3
  go_loopw [3, 4] (fun v iv wr => ∃ i : Nat, i ≤ 16 ∧ iv = .int .i64 i ∧ wr.ownsRow BB 5 1 v (1 :: D.take (32 * i)).length (nums .u8 (1 :: D.take (32 * i))) ∧ Below BB w3 wr) (fun _ iv _ => 16 - (intOf iv).toNat)
  case atStart => exact ⟨0, by omega, rfl, by simpa using G.out.2.2.2.2, Below.refl _ _⟩
  case round =>
    obtain ⟨i, hi, rfl, hown, hb⟩ := hrel
    by_cases hlt : i < 16
    · have u16 : (i : Int) < 16 := by omega
      have l16 : (0 : Int) ≤ (i : Int) := by omega
      have INIT := Lib.hid (And.intro hown hb)
      clear hown hb
      go_upto_region 6 with (fail)
      go_loopw [3, 5] (fun v kv wr => ∃ k : Nat, k ≤ 32 ∧ kv = .int .i64 k ∧ wr.ownsRow BB 5 1 v (1 :: D.take (32 * i + k)).length (nums .u8 (1 :: D.take (32 * i + k))) ∧ Below BB w3 wr) (fun _ kv _ => 32 - (intOf kv).toNat)
      case atStart => exact ⟨0, by omega, rfl, INIT.out.1, INIT.out.2⟩
      case round =>
        clear INIT
        obtain ⟨k, hk, rfl, hown, hb⟩ := hrel
        by_cases hltk : k < 32
        · have u32 : (k : Int) < 32 := by omega
          have l32 : (0 : Int) ≤ (k : Int) := by omega
          have ar := (hb.block w.heap.size (by have := HB2.out; omega)).trans G.out.1
          have hbs : BB ≤ wr.heap.size := by have := hb.size; have := G.out.2.2.2.1; have := HB2.out; omega
          have cr : wr.cell? ⟨w.heap.size, i * 32 + k, none⟩ = some (.int .u8 (D.getD (32 * i + k) 0)) := by
            rw [cell_of_row wr w.heap.size (i * 32 + k) _ _ _ ar, show i * 32 + k = 32 * i + k by omega, d512_at _ _ (by have := HL.out; omega)]
          obtain ⟨ys, hys⟩ : ∃ ys, RowKit.Hid (ys = (1 : Int) :: D.take (32 * i + k)) := ⟨_, Lib.hid rfl⟩
          obtain ⟨y, hy⟩ : ∃ y, RowKit.Hid (y = D.getD (32 * i + k) 0) := ⟨_, Lib.hid rfl⟩
          rw [← hys.out] at hown
          rw [← hy.out] at cr
          have hyl : RowKit.Hid (ys.length = 32 * i + k + 1) := Lib.hid (by have := HL.out; rw [hys.out, List.length_cons, List.length_take]; omega)
          obtain ⟨A5, c5, rfl, -, -, -⟩ := own_shape hown
          have F := Lib.hid (And.intro hown hb)
          have e : RowKit.Hid (ys ++ [y] = (1 : Int) :: D.take (32 * i + (k + 1))) := Lib.hid (by rw [hys.out, hy.out, take_snoc _ _ (by have := HL.out; omega)]; rfl)
          clear hown hb ar
          go_wp2_with (first
            | (at_builtin; refine print_append_num (w0 := w3) (W := wr) BB rfl (.tmp 15) (.tmp 21) 37 5 .u8 1 rfl Try.underlying37 info5 (by omega) (.slice A5 ys.length c5) ys y rfl rfl F.out.1 F.out.2 hbs (by have := hyl.out; omega) ?_; intro v6 w6 hown6 hb6 hg6 hat6))
          refine ⟨⟨k + 1, by omega, by go_num, ?_, hb6⟩, by simp [intOf]; omega⟩
          rw [e.out] at hown6; exact hown6
        · obtain rfl : k = 32 := by omega
          rw [show ((32 : Nat) : Int) = 32 from rfl]
          have F := Lib.hid (And.intro hown hb)
          clear hown hb
          go_wp2
          refine ⟨⟨i + 1, by omega, by go_num, ?_, F.out.2⟩, by simp [intOf]; omega⟩
          exact F.out.1
    · obtain rfl : i = 16 := by omega
      rw [show ((16 : Nat) : Int) = 16 from rfl]
      have hfull : D.take (32 * 16) = D := List.take_of_length_le (by have := HL.out; omega)
      rw [hfull] at hown
      rw [← hL.out] at hown
      have hLl : RowKit.Hid (L.length = 513) := Lib.hid (by rw [hL.out, List.length_cons, HL.out])
      have hLb : ∀ x ∈ L, 0 ≤ x ∧ x ≤ 255 := by
        intro x hx
        rw [hL.out] at hx
        rcases List.mem_cons.1 hx with h | h
        · omega
        · exact hD x h
      clear hfull
      obtain ⟨A5, c5, rfl, hc5, hr5, -⟩ := own_shape hown
      obtain ⟨w4, hw4⟩ : ∃ w4, RowKit.Hid (w4 = wr.alloc (.cells #[.slice A5 L.length c5] 37)) := ⟨_, Lib.hid rfl⟩
      have b4 : Below wr.heap.size wr w4 := by rw [hw4.out]; exact (Below.refl _ _).alloc (Nat.le_refl _) _
      have p4 : w4.cell? ⟨wr.heap.size, 0, none⟩ = some (.slice A5 L.length c5) := by rw [hw4.out]; exact cell_of_row _ wr.heap.size 0 _ _ _ (heap_alloc_new wr _)
      have r4 := hr5.below b4
      have B2 := HB2.out
      have hzz := hb.size
      have hz3 := G.out.2.2.2.1
      have t4 := (b4.block (w.heap.size + 1) (by omega)).trans ((hb.block (w.heap.size + 1) (by omega)).trans G.out.2.1)
      have lt4 : w.heap.size + 1 < w4.heap.size := by have := b4.size; omega
      have k4 : Below w.heap.size w w4 := G.out.2.2.1.trans ((hb.mono (by omega)).trans (b4.mono (by omega)))
      clear hown hb hr5 hzz hz3 B2
      go_wp2_with (first
        | (go_at_call 13; rw [← hw4.out]; refine (rone_any w4 ⟨wr.heap.size, 0, none⟩ 1 A5 c5 L p4 r4 hc5 hLb (by have := hLl.out; omega)).mono ?_; rintro e wd ⟨rfl, hbd⟩)
        | (refine wpList_store_rowTo rfl 23 (.tmp 2) (.tmp 25) rfl rfl (w.heap.size + 1) (Row32 (shaF L) 32) rfl rfl 23 _ ((hbd.block (w.heap.size + 1) lt4).trans t4) (by kernel_rfl) (by kernel_rfl) (by kernel_rfl) ?_; refine abs_list ?_; intro we hwe))
      have hg : we.heap[w.heap.size + 1]? = some (.cells (Row32 (shaF L) 32) 23 (0, 0)) := by
        rw [hwe]; exact setRow_heap _ _ _ _ _ _ ((hbd.block (w.heap.size + 1) lt4).trans t4)
      have hbe : Below w.heap.size w we := by rw [hwe]; exact below_setRow (k4.trans (hbd.mono k4.size)) (by omega) _
      exact bodyPost_ret (results_cell_row (P := Try.prog) rfl _ _ (w.heap.size + 1) 23 _ (0, 0) _ rfl hg Try.underlying23 rfl (by kernel_rfl)) rfl ⟨rfl, hbe⟩
end Go.Proofs.Ytcjhephlhgpfkaa.Sha

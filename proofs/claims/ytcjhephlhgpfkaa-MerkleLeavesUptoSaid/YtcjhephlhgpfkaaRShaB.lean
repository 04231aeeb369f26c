/- What is proved: the contract of the reference's block, SHA-256's one block of 64 bytes: what it hands back, and that it leaves all that was; the conditions stand in the theorem. -/
import Derived.Test.YtcjhephlhgpfkaaRShaA
import Derived.StillTailTactics
import Derived.Deep.RegionHeld3
import Derived.Deep.DeepCutAuto
import Derived.Deep.CutBlock
namespace Go.Proofs.Ytcjhephlhgpfkaa.Sha
open Go.RowKit
set_option maxRecDepth 100000 in
set_option maxHeartbeats 8000000 in
theorem rblock_any (s : Nat → Int) (ad : Addr) (n c : Nat) (B : Nat → Int) (w : World) (hn : 64 ≤ n)
    (hcell : ∀ i, i < 64 → w.cell? (ad.add i) = some (.int .u8 (B i))) (hB : ∀ i, 0 ≤ B i ∧ B i ≤ 255) (hlt : ad.block < w.heap.size) :
    Calls Try.prog 30 #[.agg (S8 s), .slice (some ad) n c] w fun e w' => e = .returned (.agg (S8 (blockS B s))) ∧ Below w.heap.size w w' := by
  unfold S8
  go_enter Try.func30, Try.ntmps30
  go_wp2_with fail
  refine abs_world ?_
  intro w3 hw3
  obtain ⟨hN0, hN1, hN2, hb3, hz3⟩ := alloc3 hw3
  replace hN0 : w3.heap[w.heap.size]? = some (.cells (S8 s) 57 (0, 0)) := hN0
  replace hN1 : w3.heap[w.heap.size + 1]? = some (.cells (S8 fun _ => 0) 57 (0, 0)) := hN1
  replace hN2 : w3.heap[w.heap.size + 2]? = some (.cells (Row64 (wv B) 0) 69 (0, 0)) := hN2
  clear hw3
  go_loopw [6] (fun v wr => ∃ i : Nat, i ≤ 64 ∧ v = .int .i64 i ∧ wr.heap[w.heap.size]? = some (.cells (S8 s) 57 (0, 0)) ∧ wr.heap[w.heap.size + 1]? = some (.cells (S8 fun _ => 0) 57 (0, 0)) ∧ wr.heap[w.heap.size + 2]? = some (.cells (Row64 (wv B) (i)) 69 (0, 0)) ∧ Below w.heap.size w wr ∧ wr.heap.size = w.heap.size + 3)
    (fun v _ => 64 - (intOf v).toNat)
  case atStart => exact ⟨0, by omega, rfl, hN0, hN1, hN2, hb3, hz3⟩
  case round =>
    clear hN0 hN1 hN2 hb3 hz3
    obtain ⟨i, hi, rfl, hN0, hN1, hN2, hb3, hz3⟩ := hrel
    by_cases hlt64 : i < 64
    · by_cases hlt16 : i < 16
      · skip
        have c0 := (hb3.cell (p := ad.add (4 * i)) (by rw [block_add]; exact hlt)).trans (hcell (4 * i) (by omega))
        have c1 := (hb3.cell (p := ad.add (4 * i + 1)) (by rw [block_add]; exact hlt)).trans (hcell (4 * i + 1) (by omega))
        rw [add_pos _ _ (by omega)] at c1
        have c2 := (hb3.cell (p := ad.add (4 * i + 2)) (by rw [block_add]; exact hlt)).trans (hcell (4 * i + 2) (by omega))
        rw [add_pos _ _ (by omega)] at c2
        have c3 := (hb3.cell (p := ad.add (4 * i + 3)) (by rw [block_add]; exact hlt)).trans (hcell (4 * i + 3) (by omega))
        rw [add_pos _ _ (by omega)] at c3
        have b0 := hB (4 * i)
        have b1 := hB (4 * i + 1)
        have b2 := hB (4 * i + 2)
        have b3 := hB (4 * i + 3)
        clear hcell hB
        have l16 : (i : Int) < 16 := by omega
        have HN0 := Lib.hid hN0
        have HN1 := Lib.hid hN1
        have HN2 := Lib.hid hN2
        have HZ := Lib.hid hz3
        clear hN0 hN1 hN2 hz3
        go_wp2
        have e0 : IntKind.i64.wrap (4 * (i : Int)) = 4 * i := IntWalk.i64_in _ (by omega)
        have e1 : IntKind.i64.wrap (4 * (i : Int) + 1) = 4 * i + 1 := IntWalk.i64_in _ (by omega)
        have e2 : IntKind.i64.wrap (4 * (i : Int) + 2) = 4 * i + 2 := IntWalk.i64_in _ (by omega)
        have e3 : IntKind.i64.wrap (4 * (i : Int) + 3) = 4 * i + 3 := IntWalk.i64_in _ (by omega)
        have t0 : (4 * (i : Int)).toNat = 4 * i := by omega
        have t1 : (4 * (i : Int) + 1).toNat = 4 * i + 1 := by omega
        have t2 : (4 * (i : Int) + 2).toNat = 4 * i + 2 := by omega
        have t3 : (4 * (i : Int) + 3).toNat = 4 * i + 3 := by omega
        have l0 : (0 : Int) ≤ 4 * (i : Int) := by omega
        have l1 : (0 : Int) ≤ 4 * (i : Int) + 1 := by omega
        have l2 : (0 : Int) ≤ 4 * (i : Int) + 2 := by omega
        have l3 : (0 : Int) ≤ 4 * (i : Int) + 3 := by omega
        have u0 : 4 * (i : Int) < (n : Int) := by omega
        have u1 : 4 * (i : Int) + 1 < (n : Int) := by omega
        have u2 : 4 * (i : Int) + 2 < (n : Int) := by omega
        have u3 : 4 * (i : Int) + 3 < (n : Int) := by omega
        have li : (i : Int) < 64 := by omega
        go_still_tail 35, (by kernel_rfl)
        clear e0 e1 e2 e3 t0 t1 t2 t3 l0 l1 l2 l3 u0 u1 u2 u3 c0 c1 c2 c3
        refine abs_list ?_
        intro w2 hw2
        have hh : w2.heap = wr.heap := by rw [hw2]
        have hb2 : Below w.heap.size w w2 := by rw [hw2]; exact hb3.drew
        clear hw2
        have hN2 : w2.heap[w.heap.size + 2]? = some (.cells (Row64 (wv B) i) 69 (0, 0)) := by rw [hh]; exact HN2.out
        have hce : w2.cell? ⟨w.heap.size + 1 + 1, i, none⟩ = some (.int .u32 0) := by
          rw [cell_of_row w2 (w.heap.size + 2) i _ _ _ hN2, row64_at _ _ _ (by omega), if_neg (by omega)]
        have hfe : w2.frozen? ⟨w.heap.size + 1 + 1, i, none⟩ = false := frozen_of_row w2 (w.heap.size + 2) i _ _ hN2
        have HN2' := Lib.hid hN2
        have HH := Lib.hid hh
        clear hN2 hh
        go_wp2
        have hw4 : wv B i = B (4 * i) * 16777216 + B (4 * i + 1) * 65536 + B (4 * i + 2) * 256 + B (4 * i + 3) := by rw [wv, dif_pos hlt16, word4_sum _ _ _ _ b0 b1 b2 b3]
        refine ⟨⟨i + 1, by omega, by go_num, ?_, ?_, ?_, hb2.setCell (by simp; omega) _, ?_⟩, by simp [intOf]; omega⟩
        · rw [heap_setCell_other _ _ _ _ (by simp; omega), HH.out]; exact HN0.out
        · rw [heap_setCell_other _ _ _ _ (by simp), HH.out]; exact HN1.out
        · have h := heap_setCell_same w2 (w.heap.size + 2) i _ 69 (.int .u32 (wv B i)) HN2'.out
          rw [row64_set _ _ (by omega)] at h
          rw [hw4] at h
          exact h
        · have := congrArg Array.size HH.out
          simpa [HZ.out] using this
      · obtain ⟨k, rfl⟩ : ∃ k, i = k + 16 := ⟨i - 16, by omega⟩
        clear hcell hB hi
        have hk : k ≤ 48 := by omega
        have hlt48 : k < 48 := by omega
        clear hlt64 hlt16
        rw [show ((k + 16 : Nat) : Int) = (k : Int) + 16 by omega]
        have l16 : ¬ ((k : Int) + 16 < 16) := by omega
        have cw : ∀ j, j < k + 16 → wr.cell? ⟨w.heap.size + 1 + 1, j, none⟩ = some (.int .u32 (wv B j)) := by
          intro j hj
          rw [cell_of_row wr (w.heap.size + 2) j _ _ _ hN2, row64_at _ _ _ (by omega), if_pos hj]
        have c0 := cw k (by omega)
        have c1 := cw (k + 1) (by omega)
        have c2 := cw (k + 9) (by omega)
        have c3 := cw (k + 14) (by omega)
        have hce : wr.cell? ⟨w.heap.size + 1 + 1, k + 16, none⟩ = some (.int .u32 0) := by
          rw [cell_of_row wr (w.heap.size + 2) (k + 16) _ _ _ hN2, row64_at _ _ _ (by omega), if_neg (by omega)]
        have hfe : wr.frozen? ⟨w.heap.size + 1 + 1, k + 16, none⟩ = false := frozen_of_row wr (w.heap.size + 2) (k + 16) _ _ hN2
        have HN0 := Lib.hid hN0
        have HN1 := Lib.hid hN1
        have HN2 := Lib.hid hN2
        have HZ := Lib.hid hz3
        clear hN0 hN1 hN2 hz3 cw
        have e1 : IntKind.i64.wrap ((k : Int) + 16 - 15) = (k : Int) + 1 := by rw [show (k : Int) + 16 - 15 = k + 1 by omega]; exact IntWalk.i64_in _ (by omega)
        have e2 : IntKind.i64.wrap ((k : Int) + 16 - 2) = (k : Int) + 14 := by rw [show (k : Int) + 16 - 2 = k + 14 by omega]; exact IntWalk.i64_in _ (by omega)
        have e3 : IntKind.i64.wrap ((k : Int) + 16 - 16) = (k : Int) := by rw [show (k : Int) + 16 - 16 = k by omega]; exact IntWalk.i64_in _ (by omega)
        have e4 : IntKind.i64.wrap ((k : Int) + 16 - 7) = (k : Int) + 9 := by rw [show (k : Int) + 16 - 7 = k + 9 by omega]; exact IntWalk.i64_in _ (by omega)
        have t1 : ((k : Int) + 1).toNat = k + 1 := by omega
        have t2 : ((k : Int) + 14).toNat = k + 14 := by omega
        have t3 : ((k : Int) + 9).toNat = k + 9 := by omega
        have t4 : ((k : Int) + 16).toNat = k + 16 := by omega
        have l1 : (0 : Int) ≤ (k : Int) + 1 := by omega
        have l2 : (0 : Int) ≤ (k : Int) + 14 := by omega
        have l3 : (0 : Int) ≤ (k : Int) + 9 := by omega
        have l4 : (0 : Int) ≤ (k : Int) + 16 := by omega
        have u0 : (k : Int) < 64 := by omega
        have l0 : (0 : Int) ≤ (k : Int) := by omega
        have e5 : IntKind.i64.wrap (k : Int) = (k : Int) := IntWalk.i64_in _ (by omega)
        have u1 : (k : Int) + 1 < 64 := by omega
        have u2 : (k : Int) + 14 < 64 := by omega
        have u3 : (k : Int) + 9 < 64 := by omega
        have u4 : (k : Int) + 16 < 64 := by omega
        go_wp2
        go_quiet (fail)
        go_wp2
        refine abs_world ?_
        intro w2 hw2
        have hh : w2.heap = wr.heap := by rw [hw2]; rfl
        have hb2 : Below w.heap.size w w2 := by rw [hw2]; exact below_drewN hb3 nq
        replace c0 : w2.cell? ⟨w.heap.size + 1 + 1, k, none⟩ = some (.int .u32 (wv B k)) := by rw [hw2]; exact c0
        replace c2 : w2.cell? ⟨w.heap.size + 1 + 1, k + 9, none⟩ = some (.int .u32 (wv B (k + 9))) := by rw [hw2]; exact c2
        replace hce : w2.cell? ⟨w.heap.size + 1 + 1, k + 16, none⟩ = some (.int .u32 0) := by rw [hw2]; exact hce
        replace hfe : w2.frozen? ⟨w.heap.size + 1 + 1, k + 16, none⟩ = false := by rw [hw2]; exact hfe
        clear hw2 c1 c3 e1 e2 t1 t2 l1 l2 u1 u2 hb3
        have HH := Lib.hid hh
        clear hh
        go_region_held3 (fun w' => w'.cell? ⟨w.heap.size + 1 + 1, k, none⟩ = some (.int .u32 (wv B k)) ∧ w'.cell? ⟨w.heap.size + 1 + 1, k + 9, none⟩ = some (.int .u32 (wv B (k + 9))))
          (first | exact ⟨c0, c2⟩ | (refine ⟨?_, ?_⟩ <;> (rw [World.cell?_setCell_other _ _ _ _ (by intro h; injection h; omega)]; first | exact c0 | exact c2)) | go_keep)
          ((go_at_call 35; refine (rturn_any _ _ _ (by omega) (by omega)).mono ?_; rintro e w' ⟨rfl, q, rfl⟩))
        have hw4 : wv B (k + 16) = IntKind.u32.wrap (IntKind.u32.wrap (IntKind.u32.wrap (wv B k + sig0 (wv B (k + 1))) + wv B (k + 9)) + sig1 (wv B (k + 14))) := by
          rw [wv, dif_neg (by omega), show k + 16 - 16 = k by omega, show k + 16 - 15 = k + 1 by omega, show k + 16 - 7 = k + 9 by omega, show k + 16 - 2 = k + 14 by omega]
        refine abs3 (R := Exit.inBlock 1 (Exit.then _ _)) ?_
        intro w5 hw5
        have g2 : w2.heap[w.heap.size + 2]? = some (.cells (Row64 (wv B) (k + 16)) 69 (0, 0)) := by rw [HH.out]; exact HN2.out
        have g5 : w5.heap[w.heap.size + 2]? = some (.cells (Row64 (wv B) (k + 16 + 1)) 69 (0, 0)) := by
          rw [hw5, ← row64_set _ _ (by omega), hw4]
          exact heap_setCell_same _ (w.heap.size + 2) (k + 16) _ 69 _ g2
        have g0 : w5.heap[w.heap.size]? = some (.cells (S8 s) 57 (0, 0)) := by
          rw [hw5, heap_setCell_other _ _ _ _ (by simp; omega)]; exact (congrArg (·[w.heap.size]?) HH.out).trans HN0.out
        have g1 : w5.heap[w.heap.size + 1]? = some (.cells (S8 fun _ => 0) 57 (0, 0)) := by
          rw [hw5, heap_setCell_other _ _ _ _ (by simp)]; exact (congrArg (·[w.heap.size + 1]?) HH.out).trans HN1.out
        have g3 : Below w.heap.size w w5 := by rw [hw5]; exact (below_drewN hb2 _).setCell (by simp; omega) _
        have g4 : w5.heap.size = w.heap.size + 3 := by
          rw [hw5, World.size_setCell]; exact (congrArg Array.size HH.out).trans HZ.out
        have G := Lib.hid (And.intro g0 (And.intro g1 (And.intro g5 (And.intro g3 g4))))
        clear hw5 g0 g1 g2 g3 g4 g5 c0 c2 hce hfe e3 e4 e5 l0 l3 u0 u3 u4 l4 t3 t4 hb2 hw4 HN0 HN1 HN2 HZ HH
        go_wp2
        refine ⟨⟨k + 16 + 1, by omega, by go_num, ?_⟩, by simp [intOf]; omega⟩
        exact G.out
    · obtain rfl : i = 64 := by omega
      rw [show ((64 : Nat) : Int) = 64 from rfl]
      clear hcell hB hi hlt64
      go_wp2_with fail
      refine (rrounds_any _).mono ?_
      rintro e w4 ⟨rfl, hb4⟩
      have g0 : w4.heap[w.heap.size]? = some (.cells (S8 s) 57 (0, 0)) := (hb4.block _ (by omega)).trans hN0
      have g1 : w4.heap[w.heap.size + 1]? = some (.cells (S8 fun _ => 0) 57 (0, 0)) := (hb4.block _ (by omega)).trans hN1
      have g2 : w4.heap[w.heap.size + 2]? = some (.cells (Row64 (wv B) 64) 69 (0, 0)) := (hb4.block _ (by omega)).trans hN2
      have g3 : Below w.heap.size w w4 := hb3.trans (hb4.mono (by omega))
      have g4 : w.heap.size + 3 ≤ w4.heap.size := by have := hb4.size; omega
      clear hb4 hN0 hN1 hN2 hb3 hz3
      have G := Lib.hid (And.intro g0 (And.intro g1 (And.intro g2 (And.intro g3 g4))))
      clear g0 g1 g2 g3 g4
      go_upto_region 10 with (first
        | (refine wpList_store_rowTo rfl 69 (.tmp 9) (.tmp 95) rfl rfl w4.heap.size (Row64 rk 64) rfl rfl 69 _ (heap_alloc_new w4 _) (by kernel_rfl) (by kernel_rfl) (by kernel_rfl) ?_))
      refine abs_world ?_
      intro w5 hw5
      obtain ⟨g0, g1, g2, g3, g4⟩ := G.out
      clear G
      obtain ⟨K, hK⟩ : ∃ K, K = w4.heap.size := ⟨_, rfl⟩
      have k3 : w5.heap[K]? = some (.cells (Row64 rk 64) 69 (0, 0)) := by rw [hw5, hK]; exact setRow_heap _ _ _ _ _ _ (heap_alloc_new w4 _)
      have hold : ∀ j, j < K → w5.heap[j]? = w4.heap[j]? := by
        intro j hj
        rw [hw5, heap_setRow_other _ _ _ _ (by omega)]
        exact Below.heap_alloc w4 _ j (by omega)
      have k0 := (hold w.heap.size (by omega)).trans g0
      have k1 := (hold (w.heap.size + 1) (by omega)).trans g1
      have k2 := (hold (w.heap.size + 2) (by omega)).trans g2
      have k4 : Below w.heap.size w w5 := by rw [hw5]; exact below_setRow (g3.alloc (by omega) _) (by omega) _
      have k5 : w5.heap.size = K + 1 := by rw [hw5, setRow_size, hK]; simp
      have k6 : w.heap.size + 3 ≤ K := by omega
      rw [← hK]
      clear hw5 hold g0 g1 g2 g3 g4 hK
      have G := Lib.hid (And.intro k0 (And.intro k1 (And.intro k2 (And.intro k3 (And.intro k4 (And.intro k5 k6))))))
      clear k0 k1 k2 k3 k4 k5 k6
      go_upto_region 11 with (first
        | (refine wpList_load_row rfl 57 (.tmp 2) rfl w.heap.size rfl 57 (S8 s) (0, 0) _ G.out.1 Try.underlying57 rfl (by kernel_rfl) ?_)
        | (refine wpList_store_rowTo rfl 57 (.tmp 10) (.tmp 96) rfl rfl w5.heap.size (S8 s) rfl rfl 57 _ (heap_alloc_new w5 _) (by kernel_rfl) (by kernel_rfl) (by kernel_rfl) ?_))
      refine abs_world ?_
      intro w6 hw6
      have q3 : w6.heap[K + 1]? = some (.cells (S8 s) 57 (0, 0)) := by
        have h : w6.heap[w5.heap.size]? = some (.cells (S8 s) 57 (0, 0)) := by rw [hw6]; exact setRow_heap _ _ _ _ _ _ (heap_alloc_new w5 _)
        rw [G.out.2.2.2.2.2.1] at h; exact h
      obtain ⟨g0, g1, g2, g3, g4, g5, g6⟩ := G.out
      have hold : ∀ j, j < K + 1 → w6.heap[j]? = w5.heap[j]? := by
        intro j hj
        rw [hw6, heap_setRow_other _ _ _ _ (by omega)]
        exact Below.heap_alloc w5 _ j (by omega)
      have k0 := (hold w.heap.size (by omega)).trans g0
      have k1 := (hold (w.heap.size + 1) (by omega)).trans g1
      have k2 := (hold (w.heap.size + 2) (by omega)).trans g2
      have k3 := (hold K (by omega)).trans g3
      have k4 : Below w.heap.size w w6 := by rw [hw6]; exact below_setRow (g4.alloc (by omega) _) (by omega) _
      rw [show w5.heap.size = K + 1 from g5]
      clear hw6 hold g0 g1 g2 g3 g4 g5 G
      have G6 := Lib.hid g6
      clear g6
      have G := Lib.hid (And.intro k0 (And.intro k1 (And.intro k2 (And.intro k3 (And.intro q3 k4)))))
      clear k0 k1 k2 k3 k4 q3
      go_wp2
      go_loopw [11] (fun v wr => ∃ i : Nat, i ≤ 64 ∧ v = .int .i64 i ∧ wr.heap[w.heap.size]? = some (.cells (S8 s) 57 (0, 0)) ∧ wr.heap[w.heap.size + 1]? = some (.cells (S8 fun _ => 0) 57 (0, 0)) ∧ wr.heap[w.heap.size + 2]? = some (.cells (Row64 (wv B) 64) 69 (0, 0)) ∧ wr.heap[K]? = some (.cells (Row64 rk 64) 69 (0, 0)) ∧ wr.heap[K + 1]? = some (.cells (S8 (stS B s i)) 57 (0, 0)) ∧ Below w.heap.size w wr)
        (fun v _ => 64 - (intOf v).toNat)
      case atStart => exact ⟨0, by omega, rfl, G.out.1, G.out.2.1, G.out.2.2.1, G.out.2.2.2.1, G.out.2.2.2.2.1, G.out.2.2.2.2.2⟩
      case round =>
        clear G
        obtain ⟨i, hi, rfl, g0, g1, g2, g3, g4, g5⟩ := hrel
        by_cases hlt64 : i < 64
        · skip
          obtain ⟨x, hx⟩ : ∃ x, x = stS B s i := ⟨_, rfl⟩
          rw [← hx] at g4
          have HX := Lib.hid hx
          clear hx
          have c0 : wr.cell? ⟨K + 1, 0, none⟩ = some (.int .u32 (x 0)) := cell_of_row wr (K + 1) 0 _ _ _ g4
          have c1 : wr.cell? ⟨K + 1, 1, none⟩ = some (.int .u32 (x 1)) := cell_of_row wr (K + 1) 1 _ _ _ g4
          have c2 : wr.cell? ⟨K + 1, 2, none⟩ = some (.int .u32 (x 2)) := cell_of_row wr (K + 1) 2 _ _ _ g4
          have c3 : wr.cell? ⟨K + 1, 3, none⟩ = some (.int .u32 (x 3)) := cell_of_row wr (K + 1) 3 _ _ _ g4
          have c4 : wr.cell? ⟨K + 1, 4, none⟩ = some (.int .u32 (x 4)) := cell_of_row wr (K + 1) 4 _ _ _ g4
          have c5 : wr.cell? ⟨K + 1, 5, none⟩ = some (.int .u32 (x 5)) := cell_of_row wr (K + 1) 5 _ _ _ g4
          have c6 : wr.cell? ⟨K + 1, 6, none⟩ = some (.int .u32 (x 6)) := cell_of_row wr (K + 1) 6 _ _ _ g4
          have c7 : wr.cell? ⟨K + 1, 7, none⟩ = some (.int .u32 (x 7)) := cell_of_row wr (K + 1) 7 _ _ _ g4
          have ck : wr.cell? ⟨K, i, none⟩ = some (.int .u32 (rk i)) := by rw [cell_of_row wr K i _ _ _ g3, row64_at _ _ _ hlt64, if_pos hlt64]
          have cw : wr.cell? ⟨w.heap.size + 1 + 1, i, none⟩ = some (.int .u32 (wv B i)) := by rw [cell_of_row wr (w.heap.size + 2) i _ _ _ g2, row64_at _ _ _ hlt64, if_pos hlt64]
          have G := Lib.hid (And.intro g0 (And.intro g1 (And.intro g2 (And.intro g3 (And.intro g4 g5)))))
          clear g0 g1 g2 g3 g4 g5
          have l0 : (0 : Int) ≤ (i : Int) := by omega
          have u0 : (i : Int) < 64 := by omega
          go_wp2
          go_quiet (fail)
          go_wp2
          refine abs_world ?_
          intro w7 hw7
          have hd7 : ∃ m, w7 = wr.drewN m := ⟨_, hw7⟩
          replace c0 : w7.cell? ⟨K + 1, 0, none⟩ = some (.int .u32 (x 0)) := by rw [hw7]; exact c0
          replace c1 : w7.cell? ⟨K + 1, 1, none⟩ = some (.int .u32 (x 1)) := by rw [hw7]; exact c1
          replace c2 : w7.cell? ⟨K + 1, 2, none⟩ = some (.int .u32 (x 2)) := by rw [hw7]; exact c2
          replace c3 : w7.cell? ⟨K + 1, 3, none⟩ = some (.int .u32 (x 3)) := by rw [hw7]; exact c3
          replace c4 : w7.cell? ⟨K + 1, 4, none⟩ = some (.int .u32 (x 4)) := by rw [hw7]; exact c4
          replace c5 : w7.cell? ⟨K + 1, 5, none⟩ = some (.int .u32 (x 5)) := by rw [hw7]; exact c5
          replace c6 : w7.cell? ⟨K + 1, 6, none⟩ = some (.int .u32 (x 6)) := by rw [hw7]; exact c6
          replace c7 : w7.cell? ⟨K + 1, 7, none⟩ = some (.int .u32 (x 7)) := by rw [hw7]; exact c7
          replace ck : w7.cell? ⟨K, i, none⟩ = some (.int .u32 (rk i)) := by rw [hw7]; exact ck
          replace cw : w7.cell? ⟨w.heap.size + 1 + 1, i, none⟩ = some (.int .u32 (wv B i)) := by rw [hw7]; exact cw
          have HD7 := Lib.hid hd7
          clear hw7 hd7
          go_quiet ((go_at_call 35; exact Calls.quiet_of (rturn_any _ _ _ (by omega) (by omega))))
          go_wp2
          rw [show (x 7 + bits BinOp.xor IntKind.u32 (bits BinOp.xor IntKind.u32 (turnI (x 4) 6) (turnI (x 4) 11)) (turnI (x 4) 25) + bits BinOp.xor IntKind.u32 (bits BinOp.and IntKind.u32 (x 4) (x 5)) (bits BinOp.and IntKind.u32 (bits BinOp.xor IntKind.u32 IntKind.u32.max (x 4)) (x 6)) + rk i + wv B i) % 4294967296 = tS B i x from rfl]
          refine abs_world ?_
          intro w8 hw8
          have hd8 : ∃ m, w8 = wr.drewN m := by
            obtain ⟨m, hm⟩ := HD7.out
            rw [hw8, hm, World.drewN_drewN]
            exact ⟨_, rfl⟩
          replace c0 : w8.cell? ⟨K + 1, 0, none⟩ = some (.int .u32 (x 0)) := by rw [hw8]; exact c0
          replace c1 : w8.cell? ⟨K + 1, 1, none⟩ = some (.int .u32 (x 1)) := by rw [hw8]; exact c1
          replace c2 : w8.cell? ⟨K + 1, 2, none⟩ = some (.int .u32 (x 2)) := by rw [hw8]; exact c2
          replace c3 : w8.cell? ⟨K + 1, 3, none⟩ = some (.int .u32 (x 3)) := by rw [hw8]; exact c3
          replace c4 : w8.cell? ⟨K + 1, 4, none⟩ = some (.int .u32 (x 4)) := by rw [hw8]; exact c4
          replace c5 : w8.cell? ⟨K + 1, 5, none⟩ = some (.int .u32 (x 5)) := by rw [hw8]; exact c5
          replace c6 : w8.cell? ⟨K + 1, 6, none⟩ = some (.int .u32 (x 6)) := by rw [hw8]; exact c6
          have HD8 := Lib.hid hd8
          clear hw8 hd8 ck cw c7 HD7
          go_quiet ((go_at_call 35; exact Calls.quiet_of (rturn_any _ _ _ (by omega) (by omega))))
          go_upto_region 17 with (fail)
          rw [show (bits BinOp.xor IntKind.u32 (bits BinOp.xor IntKind.u32 (turnI (x 0) 2) (turnI (x 0) 13)) (turnI (x 0) 22) + bits BinOp.xor IntKind.u32 (bits BinOp.xor IntKind.u32 (bits BinOp.and IntKind.u32 (x 0) (x 1)) (bits BinOp.and IntKind.u32 (x 0) (x 2))) (bits BinOp.and IntKind.u32 (x 1) (x 2))) % 4294967296 = uS x from rfl]
          refine abs_world ?_
          intro w9 hw9
          have hd9 : ∃ m, w9 = wr.drewN m := by
            obtain ⟨m, hm⟩ := HD8.out
            rw [hw9, hm, World.drewN_drewN]
            exact ⟨_, rfl⟩
          replace c0 : w9.cell? ⟨K + 1, 0, none⟩ = some (.int .u32 (x 0)) := by rw [hw9]; exact c0
          replace c4 : w9.cell? ⟨K + 1, 4, none⟩ = some (.int .u32 (x 4)) := by rw [hw9]; exact c4
          replace c1 : w9.cell? ⟨K + 1, 1, none⟩ = some (.int .u32 (x 1)) := by rw [hw9]; exact c1
          replace c2 : w9.cell? ⟨K + 1, 2, none⟩ = some (.int .u32 (x 2)) := by rw [hw9]; exact c2
          replace c3 : w9.cell? ⟨K + 1, 3, none⟩ = some (.int .u32 (x 3)) := by rw [hw9]; exact c3
          replace c5 : w9.cell? ⟨K + 1, 5, none⟩ = some (.int .u32 (x 5)) := by rw [hw9]; exact c5
          replace c6 : w9.cell? ⟨K + 1, 6, none⟩ = some (.int .u32 (x 6)) := by rw [hw9]; exact c6
          have hv : w9.heap[K + 1]? = some (.cells (S8 x) 57 (0, 0)) := by
            obtain ⟨m, hm⟩ := hd9
            rw [hm]; exact G.out.2.2.2.2.1
          have HV := Lib.hid hv
          have HD9 := Lib.hid hd9
          clear hw9 hd9 HD8 hv
          go_upto_region 13 with (first
            | (refine wpList_store_rowTo rfl 57 (.tmp 10) (.tmp 178) rfl rfl (K + 1) (S8 (stepS B i x)) rfl rfl 57 _ HV.out (by kernel_rfl) (by kernel_rfl) (by kernel_rfl) ?_))
          refine abs_world ?_
          intro wa hwa
          obtain ⟨m, hm⟩ := HD9.out
          obtain ⟨g0, g1, g2, g3, g4, g5⟩ := G.out
          have G6' := G6.out
          have ho : ∀ j, j ≠ K + 1 → wa.heap[j]? = wr.heap[j]? := by
            intro j hj
            rw [hwa, heap_setRow_other _ _ _ _ hj, hm]; rfl
          have k0 := (ho _ (by omega)).trans g0
          have k1 := (ho _ (by omega)).trans g1
          have k2 := (ho _ (by omega)).trans g2
          have k3 := (ho _ (by omega)).trans g3
          have k4 : wa.heap[K + 1]? = some (.cells (S8 (stS B s (i + 1))) 57 (0, 0)) := by
            rw [hwa, stS, ← HX.out]; exact setRow_heap _ _ _ _ _ _ HV.out
          have k5 : Below w.heap.size w wa := by rw [hwa, hm]; exact below_setRow (below_drewN g5 m) (by omega) _
          have GG := Lib.hid (And.intro k0 (And.intro k1 (And.intro k2 (And.intro k3 (And.intro k4 k5)))))
          clear hwa hm g0 g1 g2 g3 g4 g5 ho k0 k1 k2 k3 k4 k5 G6' c0 c1 c2 c3 c4 c5 c6 G HV HD9 HX l0 u0
          go_wp2
          exact ⟨⟨i + 1, by omega, by go_num, GG.out.1, GG.out.2.1, GG.out.2.2.1, GG.out.2.2.2.1, GG.out.2.2.2.2.1, GG.out.2.2.2.2.2⟩, by simp [intOf]; omega⟩
        · skip
          obtain rfl : i = 64 := by omega
          rw [show ((64 : Nat) : Int) = 64 from rfl]
          obtain ⟨x, hx⟩ : ∃ x, x = stS B s 64 := ⟨_, rfl⟩
          rw [← hx] at g4
          have HX := Lib.hid hx
          clear hx hlt64 hi g2 g3
          have G := Lib.hid (And.intro g0 (And.intro g1 (And.intro g4 g5)))
          clear g0 g1 g4 g5
          go_wp2
          go_loopw [16] (fun v wr => ∃ i : Nat, i ≤ 8 ∧ v = .int .i64 i ∧ wr.heap[w.heap.size]? = some (.cells (S8 s) 57 (0, 0)) ∧ wr.heap[w.heap.size + 1]? = some (.cells (S8 fun _ => 0) 57 (0, 0)) ∧ wr.heap[K + 1]? = some (.cells (S8 (mixS x s i)) 57 (0, 0)) ∧ Below w.heap.size w wr)
            (fun v _ => 8 - (intOf v).toNat)
          case atStart => exact ⟨0, by omega, rfl, G.out.1, G.out.2.1, G.out.2.2.1, G.out.2.2.2⟩
          case round =>
            clear G
            obtain ⟨i, hi, rfl, g0, g1, g2, g3⟩ := hrel
            by_cases hlt8 : i < 8
            · have c0 : wr.cell? ⟨w.heap.size, i, none⟩ = some (.int .u32 (s i)) := by rw [cell_of_row wr w.heap.size i _ _ _ g0, s8_at _ _ hlt8]
              have c1 : wr.cell? ⟨K + 1, i, none⟩ = some (.int .u32 (x i)) := by rw [cell_of_row wr (K + 1) i _ _ _ g2, s8_at _ _ hlt8, mix_at]
              have f1 : wr.frozen? ⟨K + 1, i, none⟩ = false := frozen_of_row wr (K + 1) i _ _ g2
              have G := Lib.hid (And.intro g0 (And.intro g1 (And.intro g2 g3)))
              clear g0 g1 g2 g3
              have l0 : (0 : Int) ≤ (i : Int) := by omega
              have u0 : (i : Int) < 8 := by omega
              go_wp2
              go_still_tail 8, (by kernel_rfl)
              refine abs_list ?_
              intro wb hwb
              have hh : wb.heap = wr.heap := by rw [hwb]
              have hbb : Below w.heap.size w wb := by rw [hwb]; exact G.out.2.2.2.drew
              have c1' : wb.cell? ⟨K + 1, i, none⟩ = some (.int .u32 (x i)) := by rw [hwb]; exact c1
              have f1' : wb.frozen? ⟨K + 1, i, none⟩ = false := by rw [hwb]; exact f1
              have HH := Lib.hid hh
              have HB := Lib.hid hbb
              clear hwb hh hbb c0 c1 f1
              go_wp2
              refine ⟨⟨i + 1, by omega, by go_num, ?_, ?_, ?_, HB.out.setCell (by have := G6.out; simp; omega) _⟩, by simp [intOf]; omega⟩
              · rw [heap_setCell_other _ _ _ _ (by have := G6.out; simp; omega), HH.out]; exact G.out.1
              · rw [heap_setCell_other _ _ _ _ (by have := G6.out; simp; omega), HH.out]; exact G.out.2.1
              · have h2 : wb.heap[K + 1]? = some (.cells (S8 (mixS x s i)) 57 (0, 0)) := by rw [HH.out]; exact G.out.2.2.1
                have h := heap_setCell_same wb (K + 1) i _ 57 (.int .u32 ((x i + s i) % 4294967296)) h2
                rw [s8_set, mix_set] at h
                exact h
            · obtain rfl : i = 8 := by omega
              rw [show ((8 : Nat) : Int) = 8 from rfl]
              have G := Lib.hid (And.intro g0 (And.intro g1 (And.intro g2 g3)))
              clear g0 g1 g2 g3 hlt8 hi
              go_wp2_with (first
                | (refine wpList_load_row rfl 57 (.tmp 10) rfl (K + 1) rfl 57 (S8 (mixS x s 8)) (0, 0) _ G.out.2.2.1 Try.underlying57 rfl (by kernel_rfl) ?_)
                | (refine wpList_store_rowTo rfl 57 (.tmp 4) (.tmp 191) rfl rfl (w.heap.size + 1) (S8 (mixS x s 8)) rfl rfl 57 _ G.out.2.1 (by kernel_rfl) (by kernel_rfl) (by kernel_rfl) ?_; refine abs_list ?_; intro wc hwc))
              have hg : wc.heap[w.heap.size + 1]? = some (.cells (S8 (blockS B s)) 57 (0, 0)) := by
                rw [hwc, show S8 (blockS B s) = S8 (mixS x s 8) by rw [mix_all, HX.out]; rfl]
                exact setRow_heap _ _ _ _ _ _ G.out.2.1
              have hb : Below w.heap.size w wc := by rw [hwc]; exact below_setRow G.out.2.2.2 (by omega) _
              exact bodyPost_ret (results_cell_row (P := Try.prog) rfl _ _ (w.heap.size + 1) 57 _ (0, 0) _ rfl hg Try.underlying57 rfl (by kernel_rfl)) rfl ⟨rfl, hb⟩
end Go.Proofs.Ytcjhephlhgpfkaa.Sha

/- What is proved: the contract of the reference's (*Hasher).Sum; the conditions stand in the theorem. -/
import Derived.Test.YtcjhephlhgpfkaaRShaM
import Derived.Test.YtcjhephlhgpfkaaShaG
import Derived.Deep.DeepCutAuto
import Derived.Deep.CutBlock
namespace Go.Proofs.Ytcjhephlhgpfkaa.Sha
open Go.RowKit Go.Proofs.YtcjhephlhgpfkaaW.PrintWords Go.Proofs.YtcjhephlhgpfkaaW.PrintLast
set_option linter.unusedVariables false
set_option linter.unusedSimpArgs false
theorem set8_heapS {w : World} {H : Nat} {x y : Nat → Int} (h : w.heap[H]? = some (.cells (S8 x) 57 (0, 0))) : (set8 w H y).heap[H]? = some (.cells (S8 y) 57 (0, 0)) := by
  have h0 := heap_setCell_same _ H 0 _ 57 (.int .u32 (y 0)) h
  have h1 := heap_setCell_same _ H 1 _ 57 (.int .u32 (y 1)) h0
  have h2 := heap_setCell_same _ H 2 _ 57 (.int .u32 (y 2)) h1
  have h3 := heap_setCell_same _ H 3 _ 57 (.int .u32 (y 3)) h2
  have h4 := heap_setCell_same _ H 4 _ 57 (.int .u32 (y 4)) h3
  have h5 := heap_setCell_same _ H 5 _ 57 (.int .u32 (y 5)) h4
  have h6 := heap_setCell_same _ H 6 _ 57 (.int .u32 (y 6)) h5
  have h7 := heap_setCell_same _ H 7 _ 57 (.int .u32 (y 7)) h6
  unfold set8
  rw [h7]
  simp only [S8, List.setIfInBounds_toArray, List.set_cons_zero, List.set_cons_succ]
theorem below_set8 {B : Nat} {a w : World} {H : Nat} (h : Below B a w) (hB : B ≤ H) (y : Nat → Int) : Below B a (set8 w H y) :=
  (((((((h.setCell hB _).setCell hB _).setCell hB _).setCell hB _).setCell hB _).setCell hB _).setCell hB _).setCell hB _
theorem set8_other {w : World} {H : Nat} (y : Nat → Int) (k : Nat) (hk : k ≠ H) : (set8 w H y).heap[k]? = w.heap[k]? := by
  unfold set8
  rw [heap_setCell_other _ _ _ _ hk, heap_setCell_other _ _ _ _ hk, heap_setCell_other _ _ _ _ hk, heap_setCell_other _ _ _ _ hk, heap_setCell_other _ _ _ _ hk, heap_setCell_other _ _ _ _ hk, heap_setCell_other _ _ _ _ hk, heap_setCell_other _ _ _ _ hk]
set_option maxRecDepth 100000 in
set_option maxHeartbeats 8000000 in
theorem rsum_any (w : World) (H : Nat) (y : Nat → Int) (A : Option Addr) (c : Nat) (R : List Int) (n : Nat) (hH : w.heap[H]? = some (.cells (Hr y (.slice A R.length c) n) 65 (0, 0)))
    (hr : ReadsInt w .u8 A R.length R) (hm : R.length < 64) (hR : ∀ x ∈ R, 0 ≤ x ∧ x ≤ 255) (hn : n ≤ 70368744177664) :
    Calls Try.prog 22 #[.pointer (some ⟨H, 0, none⟩)] w (SumPost y R n w) := by
  have hltH : H < w.heap.size := by rcases Nat.lt_or_ge H w.heap.size with h | h; exact h; rw [Array.getElem?_eq_none h] at hH; cases hH
  go_enter Try.func22, Try.ntmps22
  go_upto_region 1 with (fail)
  refine abs_world ?_
  intro w1 hw1
  have hb1 : Below w.heap.size w w1 := by rw [hw1]; exact (Below.refl _ _).alloc (Nat.le_refl _) _
  have z1 : w1.heap.size = w.heap.size + 1 := by rw [hw1]; exact Array.size_push _
  have t1 : w1.heap[w.heap.size]? = some (.cells (Row32 (fun _ => 0) 0) 22 (0, 0)) := by rw [hw1]; exact heap_alloc_new w _
  have g1 := (hb1.block H hltH).trans hH
  have r1 := hr.below hb1
  have c9 : w1.cell? ⟨H, 9, none⟩ = some (.slice A R.length c) := cell_of_row w1 H 9 _ _ _ g1
  clear hw1 hH hr
  obtain ⟨B1, hB1⟩ : ∃ B1, RowKit.Hid (B1 = w1.heap.size) := ⟨_, Lib.hid rfl⟩
  have hB1' := hB1.out
  have G := Lib.hid (And.intro g1 (And.intro hb1 (And.intro z1 t1)))
  clear g1 hb1 z1 t1
  go_upto_region 2 with (first
    | (go_at_call 31; refine (rcopy_any w1 A c R r1 hR (by omega)).mono ?_; rintro e w2 ⟨v2, rfl, hM2, hb2⟩; rw [← hB1.out] at hM2 hb2)
    | (at_builtin; refine m_append (w0 := w1) (W := w2) B1 rfl (.tmp 14) (.tmp 15) 37 rfl Try.underlying37 info5 v2 R 128 rfl rfl hM2 hb2 (by rw [hB1.out]; exact hb2.size) (by omega) ?_; intro v3 w3 hM3 hb3))
  have INIT := Lib.hid (And.intro hM3 hb3)
  clear hM3 hb3 hM2 hb2 c9 r1
  go_loopw [3] (fun v wr => ∃ k, k ≤ padZ R.length ∧ MRow wr B1 v (zeros R k) ∧ Below B1 w1 wr) (fun v _ => match v with | .slice _ n _ => 200 - n | _ => 0)
  case atStart => exact ⟨0, by omega, by simpa [zeros] using INIT.out.1, INIT.out.2⟩
  case round =>
    clear INIT
    obtain ⟨k, hk, hM, hb⟩ := hrel
    have hpz : padZ R.length < 64 := Nat.mod_lt _ (by omega)
    obtain ⟨g4, c4, rfl, hA4, hc4, hr4⟩ := hM.reads
    have F := Lib.hid (And.intro hM hb)
    clear hM hb hr4 hA4
    rw [zeros_len] at hc4 ⊢
    by_cases hkz : k = padZ R.length
    · have hmod : ((R.length : Int) + 1 + (k : Int)) % 64 = 56 := by unfold padZ at hkz; omega
      have HK := Lib.hid hkz
      clear hkz hk hpz
      have kB : Below w.heap.size w wr := (G.out.2.1).trans (F.out.2.mono (by rw [hB1.out, G.out.2.2.1]; omega))
      have gH : wr.heap[H]? = some (.cells (Hr y (.slice A R.length c) n) 65 (0, 0)) := (F.out.2.block H (by rw [hB1.out, G.out.2.2.1]; omega)).trans G.out.1
      have c8 : wr.cell? ⟨H, 8, none⟩ = some (.int .i64 n) := cell_of_row wr H 8 _ _ _ gH
      have hn8 : IntKind.u64.wrap ((n : Int) * 8) = (n : Int) * 8 := by rw [IntKind.wrap_u64]; omega
      have hn1 : IntKind.u64.wrap (n : Int) = (n : Int) := by rw [IntKind.wrap_u64]; omega
      have KB := Lib.hid (And.intro kB gH)
      clear kB gH
      go_upto_region 6 with (fail)
      have INIT := Lib.hid (And.intro F.out.1 F.out.2)
      clear F hc4 hmod c8
      have hk2 := HK.out
      go_loopw [3, 5] (fun v iv wr => ∃ i : Nat, i ≤ 8 ∧ iv = .int .i64 (7 - (i : Int)) ∧ MRow wr B1 v (padK R n i) ∧ Below B1 w1 wr) (fun _ iv _ => (intOf iv + 1).toNat)
      case atStart =>
        refine ⟨0, by omega, rfl, ?_, INIT.out.2⟩
        have h := INIT.out.1
        rw [zeros_len] at h
        rw [show padK R n 0 = zeros R k by simp [padK, lenL, hk2]]
        exact h
      case round =>
        clear INIT
        obtain ⟨i, hi, rfl, hM, hb⟩ := hrel
        by_cases h8 : i < 8
        · have l0 : (0 : Int) ≤ 7 - (i : Int) := by omega
          have s0 : (0 : Int) ≤ 8 * (7 - (i : Int)) := by omega
          have s1 : 8 * (7 - (i : Int)) < 64 := by omega
          obtain ⟨g5, c5, rfl, -, -, -⟩ := hM.reads
          have F := Lib.hid (And.intro hM hb)
          clear hM hb hk2
          have t0 : (8 * (7 - (i : Int))).toNat = 56 - 8 * i := by omega
          go_wp2_with (first
            | (at_builtin; refine m_append (w0 := w1) (W := wr) B1 rfl (.tmp 34) (.tmp 40) 37 rfl Try.underlying37 info5 (.slice (some ⟨g5, 0, none⟩) (padK R n i).length c5) (padK R n i) ((n : Int) * 8 / 2 ^ (56 - 8 * i) % 256) rfl rfl F.out.1 F.out.2 (by rw [hB1.out]; exact F.out.2.size) (by rw [padK_len]; have := HK.out; have : padZ R.length < 64 := Nat.mod_lt _ (by omega); omega) ?_; intro v5 w5 hM5 hb5))
          rw [padK_succ] at hM5
          refine ⟨⟨i + 1, by omega, ?_, hM5, hb5⟩, by simp [intOf]; omega⟩
          congr 1
          omega
        · obtain rfl : i = 8 := by omega
          clear h8 hi hk2
          have hltB : H < B1 := by rw [hB1.out, G.out.2.2.1]; omega
          have gH : wr.heap[H]? = some (.cells (Hr y (.slice A R.length c) n) 65 (0, 0)) := (hb.block H hltB).trans G.out.1
          have cc0 : wr.cell? ⟨H, 0, none⟩ = some (.int .u32 (y 0)) := cell_of_row wr H 0 _ _ _ gH
          have cc1 : wr.cell? ⟨H, 1, none⟩ = some (.int .u32 (y 1)) := cell_of_row wr H 1 _ _ _ gH
          have cc2 : wr.cell? ⟨H, 2, none⟩ = some (.int .u32 (y 2)) := cell_of_row wr H 2 _ _ _ gH
          have cc3 : wr.cell? ⟨H, 3, none⟩ = some (.int .u32 (y 3)) := cell_of_row wr H 3 _ _ _ gH
          have cc4 : wr.cell? ⟨H, 4, none⟩ = some (.int .u32 (y 4)) := cell_of_row wr H 4 _ _ _ gH
          have cc5 : wr.cell? ⟨H, 5, none⟩ = some (.int .u32 (y 5)) := cell_of_row wr H 5 _ _ _ gH
          have cc6 : wr.cell? ⟨H, 6, none⟩ = some (.int .u32 (y 6)) := cell_of_row wr H 6 _ _ _ gH
          have cc7 : wr.cell? ⟨H, 7, none⟩ = some (.int .u32 (y 7)) := cell_of_row wr H 7 _ _ _ gH
          obtain ⟨g5, c5, rfl, hA5, hc5, hr5⟩ := hM.reads
          have F := Lib.hid (And.intro hr5 (And.intro hb (And.intro hc5 hM)))
          clear hM hb hc5 hr5 hA5 gH
          go_upto_region 11 with (first
            | (refine wpList_store_rowTo rfl 57 (.tmp 6) (.tmp 45) rfl rfl wr.heap.size (S8 y) rfl rfl 57 _ (heap_alloc_new wr _) (by kernel_rfl) (by kernel_rfl) (by kernel_rfl) ?_; refine abs_list ?_; intro wc hwc))
          obtain ⟨P, hP⟩ : ∃ P, RowKit.Hid (P = padK R n 8) := ⟨_, Lib.hid rfl⟩
          have FI := F.out
          have hPl : P.length = R.length + 1 + padZ R.length + 8 := by rw [hP.out, padK_len]
          have hP64 : P.length % 64 = 0 := by rw [hPl]; unfold padZ; omega
          have hPb : ∀ x ∈ P, 0 ≤ x ∧ x ≤ 255 := by rw [hP.out]; exact padK_bd hR n 8
          have hPs : P.length ≤ 200 := by rw [hPl]; have : padZ R.length < 64 := Nat.mod_lt _ (by omega); omega
          have hP0 : 0 < P.length := by omega
          rw [← hP.out] at FI ⊢
          have ha5 : g5 < wr.heap.size := by
            obtain ⟨ad', e', hc⟩ := FI.1.2.2 hP0
            have h0 := hc 0 hP0
            injection e' with e'
            subst e'
            have := World.block_lt_of_cell? wr _ h0
            rwa [addr_add_block] at this
          have hbc : Below wr.heap.size wr wc := by rw [hwc]; exact below_setRow ((Below.refl _ _).alloc (Nat.le_refl _) _) (Nat.le_refl _) _
          have s6 : wc.heap[wr.heap.size]? = some (.cells (S8 y) 57 (0, 0)) := by rw [hwc]; exact setRow_heap _ _ _ _ _ _ (heap_alloc_new wr _)
          have zw : w.heap.size < wr.heap.size := by have := FI.2.1.size; have := G.out.2.2.1; omega
          have kc : Below w.heap.size w wc := (G.out.2.1).trans ((FI.2.1.mono (by rw [hB1.out, G.out.2.2.1]; omega)).trans (hbc.mono (by omega)))
          have tc : wc.heap[w.heap.size]? = some (.cells (Row32 (fun _ => 0) 0) 22 (0, 0)) := by
            rw [hbc.block _ zw, FI.2.1.block _ (by rw [hB1.out, G.out.2.2.1]; omega)]; exact G.out.2.2.2
          have rc := FI.1.below hbc
          have hc5' := FI.2.2.1
          have INIT := Lib.hid (And.intro s6 (And.intro tc (And.intro kc rc)))
          clear s6 tc kc rc FI F hbc hwc cc0 cc1 cc2 cc3 cc4 cc5 cc6 cc7 KB HK hPl
          obtain ⟨g6, hg6⟩ : ∃ g6, RowKit.Hid (g6 = wr.heap.size) := ⟨_, Lib.hid rfl⟩
          rw [← hg6.out] at INIT zw ha5 ⊢
          go_loopw [7] (fun v wr => ∃ k : Nat, 64 * k ≤ P.length ∧ v = .int .i64 (64 * (k : Int)) ∧ ReadsInt wr .u8 (some ⟨g5, 0, none⟩) P.length P ∧
              wr.heap[g6]? = some (.cells (S8 (stB P y k)) 57 (0, 0)) ∧ wr.heap[w.heap.size]? = some (.cells (Row32 (fun _ => 0) 0) 22 (0, 0)) ∧ Below w.heap.size w wr)
            (fun v _ => P.length - (intOf v).toNat)
          case atStart => exact ⟨0, by omega, rfl, INIT.out.2.2.2, INIT.out.1, INIT.out.2.1, INIT.out.2.2.1⟩
          case round =>
            clear INIT
            obtain ⟨k, hk, rfl, hr', q6, qt, qb⟩ := hrel
            have lt6 : g6 < wr.heap.size := by rcases Nat.lt_or_ge g6 wr.heap.size with h | h; exact h; rw [Array.getElem?_eq_none h] at q6; cases q6
            by_cases h64 : 64 * k < P.length
            · obtain ⟨i0, hi, hz0, hz1, hz2⟩ := info_parts info5
              obtain ⟨A7, hmid, hread7, hcap7⟩ := print_mid_int (P := Try.prog) (k := .u8) 37 5 Try.underlying37 hi hz1 (some ⟨g5, 0, none⟩) c5 P (64 * (k : Int)) (64 * (k : Int) + 64) (by omega) (by omega) (by omega) hc5'
              have hl7 : ((P.take (64 * (k : Int) + 64).toNat).drop (64 * (k : Int)).toNat).length = 64 := by rw [List.length_drop, List.length_take]; omega
              have r7 := hread7 wr hr'
              rw [hl7] at hmid r7
              obtain ⟨ad, rfl, hcd0⟩ := r7.2.2 (by omega)
              obtain ⟨x, hx_⟩ : ∃ x, RowKit.Hid (x = stB P y k) := ⟨_, Lib.hid rfl⟩
              rw [← hx_.out] at q6
              obtain ⟨Bk, hBk_⟩ : ∃ Bk : Nat → Int, RowKit.Hid (Bk = fun i => P.getD (64 * k + i) 0) := ⟨_, Lib.hid rfl⟩
              have hcd : ∀ i, i < 64 → wr.cell? (ad.add i) = some (.int .u8 (Bk i)) := by
                intro i hi
                rw [hcd0 i (by omega), hBk_.out]
                have e1 : (64 * (k : Int)).toNat = 64 * k := by omega
                have e2 : 64 * k + i < (64 * (k : Int) + 64).toNat := by omega
                simp [List.getD, List.getElem?_drop, List.getElem?_take, e1, e2]
              have hBd : ∀ i, 0 ≤ Bk i ∧ Bk i ≤ 255 := by
                intro i; rw [hBk_.out]; exact byte_bd hPb _
              have hltd : ad.block < wr.heap.size := World.block_lt_of_cell? wr _ (by have := hcd 0 (by omega); exact this)
              have l0 : (0 : Int) ≤ 64 * (k : Int) := by omega
              have u0 : (64 * (k : Int)) < (P.length : Int) := by omega
              have n0 : IntKind.i64.wrap (64 * (k : Int) + 64) = 64 * (k : Int) + 64 := IntWalk.i64_in _ (by omega)
              have d0 : wr.cell? ⟨g6, 0, none⟩ = some (.int .u32 (x 0)) := cell_of_row wr g6 0 _ _ _ q6
              have d1 : wr.cell? ⟨g6, 1, none⟩ = some (.int .u32 (x 1)) := cell_of_row wr g6 1 _ _ _ q6
              have d2 : wr.cell? ⟨g6, 2, none⟩ = some (.int .u32 (x 2)) := cell_of_row wr g6 2 _ _ _ q6
              have d3 : wr.cell? ⟨g6, 3, none⟩ = some (.int .u32 (x 3)) := cell_of_row wr g6 3 _ _ _ q6
              have d4 : wr.cell? ⟨g6, 4, none⟩ = some (.int .u32 (x 4)) := cell_of_row wr g6 4 _ _ _ q6
              have d5 : wr.cell? ⟨g6, 5, none⟩ = some (.int .u32 (x 5)) := cell_of_row wr g6 5 _ _ _ q6
              have d6 : wr.cell? ⟨g6, 6, none⟩ = some (.int .u32 (x 6)) := cell_of_row wr g6 6 _ _ _ q6
              have d7 : wr.cell? ⟨g6, 7, none⟩ = some (.int .u32 (x 7)) := cell_of_row wr g6 7 _ _ _ q6
              have GG := Lib.hid (And.intro q6 (And.intro qt (And.intro qb hr')))
              clear q6 qt qb hr' hcd0 r7 hread7 hcap7
              go_upto_region 13 with (fail)
              refine start_ (n := 8) (S := fun w' => w'.cell? ⟨g6, 0, none⟩ = some (.int .u32 (x 0)) ∧ w'.cell? ⟨g6, 1, none⟩ = some (.int .u32 (x 1)) ∧ w'.cell? ⟨g6, 2, none⟩ = some (.int .u32 (x 2)) ∧ w'.cell? ⟨g6, 3, none⟩ = some (.int .u32 (x 3)) ∧ w'.cell? ⟨g6, 4, none⟩ = some (.int .u32 (x 4)) ∧ w'.cell? ⟨g6, 5, none⟩ = some (.int .u32 (x 5)) ∧ w'.cell? ⟨g6, 6, none⟩ = some (.int .u32 (x 6)) ∧ w'.cell? ⟨g6, 7, none⟩ = some (.int .u32 (x 7))) (ds := [7]) #[false, false, false, false, false, false, false, false] (by kernel_rfl) rfl rfl ⟨d0, d1, d2, d3, d4, d5, d6, d7⟩ (fun hHeld => ?_)
              refine pure_ (i := 1) (N := (some 53)) (v := ?_) (a' := ?_) #[false, true, false, false, false, false, false, false] rfl rfl (by kernel_rfl) (fun _ _ _ h => h) (Or.inl ⟨by rfl, ?_⟩) ?_ ?_
              rotate_left
              · intro w'
                go_simp
                with_reducible rfl
              rotate_left
              · simp only [Act.put, List.setIfInBounds_toArray, List.set_cons_zero, List.set_cons_succ, i64_w, i32_w]
                rfl
              refine pure_ (i := 2) (N := (some 54)) (v := ?_) (a' := ?_) #[false, true, true, false, false, false, false, false] rfl rfl (by kernel_rfl) (fun _ _ _ h => h) (Or.inl ⟨by rfl, ?_⟩) ?_ ?_
              rotate_left
              · intro w'
                go_simp
                with_reducible rfl
              rotate_left
              · simp only [Act.put, List.setIfInBounds_toArray, List.set_cons_zero, List.set_cons_succ, i64_w, i32_w]
                rfl
              refine pure_ (i := 3) (N := (some 55)) (v := ?_) (a' := ?_) #[false, true, true, true, false, false, false, false] rfl rfl (by kernel_rfl) (fun _ _ _ h => h) (Or.inl ⟨by rfl, ?_⟩) ?_ ?_
              rotate_left
              · intro w'
                go_simp
                with_reducible rfl
              rotate_left
              · simp only [Act.put, List.setIfInBounds_toArray, List.set_cons_zero, List.set_cons_succ, i64_w, i32_w]
                rfl
              refine pure_ (i := 4) (N := (some 56)) (v := ?_) (a' := ?_) #[false, true, true, true, true, false, false, false] rfl rfl (by kernel_rfl) (fun _ _ _ h => h) (Or.inl ⟨by rfl, ?_⟩) ?_ ?_
              rotate_left
              · intro w'
                go_simp
                with_reducible rfl
              rotate_left
              · simp only [Act.put, List.setIfInBounds_toArray, List.set_cons_zero, List.set_cons_succ, i64_w, i32_w]
                rfl
              refine pure_ (i := 5) (N := (some 57)) (v := ?_) (a' := ?_) #[false, true, true, true, true, true, false, false] rfl rfl (by kernel_rfl) (fun _ _ _ h => h) (Or.inl ⟨by rfl, ?_⟩) ?_ ?_
              rotate_left
              · intro w'
                go_simp
                with_reducible rfl
              rotate_left
              · simp only [Act.put, List.setIfInBounds_toArray, List.set_cons_zero, List.set_cons_succ, i64_w, i32_w]
                rfl
              refine take_ (i := 0) (N := (some 52)) (v := ?_) (a' := ?_) #[true, true, true, true, true, true, false, false] rfl rfl (by kernel_rfl) (fun _ _ _ h => h) (Or.inl ⟨by rfl, ?_⟩) hHeld ?_ ?_
              rotate_left
              · rintro w' ⟨s0, s1, s2, s3, s4, s5, s6, s7⟩
                go_simp
                with_reducible rfl
              rotate_left
              · simp only [Act.put, List.setIfInBounds_toArray, List.set_cons_zero, List.set_cons_succ, i64_w, i32_w]
                rfl
              refine one_ (i := 6) (N := (some 58)) #[true, true, true, true, true, true, true, false] rfl rfl (by kernel_rfl) (by decide) (fun K hK => ?_)
              refine goes_ Try.func30 (by kernel_rfl) rfl #[.agg (S8 x), .slice (some ad) 64 (c5 - (64 * (k : Int)).toNat)] (by rfl) rfl rfl (by (try simp only [List.map_toArray, List.map_cons, List.map_nil]); rfl) ?_
              refine (rblock_any x ad 64 _ Bk wr.drew (Nat.le_refl _) hcd hBd hltd).mono ?_
              rintro e wd ⟨rfl, hbd⟩
              refine ⟨_, rfl, ?_⟩
              replace d0 : wd.cell? ⟨g6, 0, none⟩ = some (.int .u32 (x 0)) := (hbd.cell (p := ⟨g6, 0, none⟩) lt6).trans d0
              replace d1 : wd.cell? ⟨g6, 1, none⟩ = some (.int .u32 (x 1)) := (hbd.cell (p := ⟨g6, 1, none⟩) lt6).trans d1
              replace d2 : wd.cell? ⟨g6, 2, none⟩ = some (.int .u32 (x 2)) := (hbd.cell (p := ⟨g6, 2, none⟩) lt6).trans d2
              replace d3 : wd.cell? ⟨g6, 3, none⟩ = some (.int .u32 (x 3)) := (hbd.cell (p := ⟨g6, 3, none⟩) lt6).trans d3
              replace d4 : wd.cell? ⟨g6, 4, none⟩ = some (.int .u32 (x 4)) := (hbd.cell (p := ⟨g6, 4, none⟩) lt6).trans d4
              replace d5 : wd.cell? ⟨g6, 5, none⟩ = some (.int .u32 (x 5)) := (hbd.cell (p := ⟨g6, 5, none⟩) lt6).trans d5
              replace d6 : wd.cell? ⟨g6, 6, none⟩ = some (.int .u32 (x 6)) := (hbd.cell (p := ⟨g6, 6, none⟩) lt6).trans d6
              replace d7 : wd.cell? ⟨g6, 7, none⟩ = some (.int .u32 (x 7)) := (hbd.cell (p := ⟨g6, 7, none⟩) lt6).trans d7
              refine hK.out _ _ ⟨d0, d1, d2, d3, d4, d5, d6, d7⟩ (fun hHeld => ?_)
              clear hK K
              refine norm_ (a' := ?_) ?_ ?_
              rotate_left
              · show Act.put _ (some 58) _ = _
                simp only [Act.put, List.setIfInBounds_toArray, List.set_cons_zero, List.set_cons_succ, i64_w, i32_w]
                rfl
              refine last_ (i := 7) (N := none) #[true, true, true, true, true, true, true, true] rfl rfl (by kernel_rfl) (by decide) (fun K hK => ?_)
              have GD := (hbd.block g6 lt6).trans GG.out.1
              refine skip_ (w1 := set8 wd g6 (blockS Bk x)) (by rfl) rfl ?hst ?_
              case hst =>
                have f0 : wd.frozen? ⟨g6, 0, none⟩ = false := frozen_of_row wd g6 0 _ _ GD
                have f1 : wd.frozen? ⟨g6, 1, none⟩ = false := frozen_of_row wd g6 1 _ _ GD
                have f2 : wd.frozen? ⟨g6, 2, none⟩ = false := frozen_of_row wd g6 2 _ _ GD
                have f3 : wd.frozen? ⟨g6, 3, none⟩ = false := frozen_of_row wd g6 3 _ _ GD
                have f4 : wd.frozen? ⟨g6, 4, none⟩ = false := frozen_of_row wd g6 4 _ _ GD
                have f5 : wd.frozen? ⟨g6, 5, none⟩ = false := frozen_of_row wd g6 5 _ _ GD
                have f6 : wd.frozen? ⟨g6, 6, none⟩ = false := frozen_of_row wd g6 6 _ _ GD
                have f7 : wd.frozen? ⟨g6, 7, none⟩ = false := frozen_of_row wd g6 7 _ _ GD
                simp only [set8, S8]
                go_simp
              refine hK.out _ _ ?_
              clear hK K
              refine done_ (by kernel_rfl) ?_
              have s6 : (set8 wd g6 (blockS Bk x)).heap[g6]? = some (.cells (S8 (stB P y (k + 1))) 57 (0, 0)) := by
                rw [set8_heapS GD]
                show _ = some (Obj.cells (S8 (blockS (fun i => P.getD (64 * k + i) 0) (stB P y k))) _ _)
                rw [← hBk_.out, ← hx_.out]
              have kq : Below w.heap.size w (set8 wd g6 (blockS Bk x)) := below_set8 (GG.out.2.2.1.drew.trans (hbd.mono GG.out.2.2.1.size)) (by omega) _
              have tq : (set8 wd g6 (blockS Bk x)).heap[w.heap.size]? = some (.cells (Row32 (fun _ => 0) 0) 22 (0, 0)) := by
                rw [set8_other _ _ (by omega)]
                exact (hbd.block w.heap.size (by show _ < wr.heap.size; omega)).trans GG.out.2.1
              have rq : ReadsInt (set8 wd g6 (blockS Bk x)) .u8 (some ⟨g5, 0, none⟩) P.length P :=
                reads_gb GG.out.2.2.2 (set8_gb (gb_below (gb_drew (gb_refl wr (some g6))) hbd (Nat.le_refl _)) _) (fun a e _ => by injection e with e; subst e; show g5 ≠ g6; omega)
              refine abs3 (R := Exit.inBlock 5 (Exit.then _ _)) ?_
              intro we hwe
              rw [← hwe] at s6 kq tq rq
              have REL := Lib.hid (And.intro s6 (And.intro tq (And.intro kq rq)))
              clear s6 tq kq rq hwe GG hbd hcd hBd hltd GD hHeld d0 d1 d2 d3 d4 d5 d6 d7 hmid
              go_wp2
              refine ⟨⟨k + 1, by omega, by go_num, REL.out.2.2.2, REL.out.1, REL.out.2.1, REL.out.2.2.1⟩, by simp [intOf]; omega⟩
            · obtain rfl : k = P.length / 64 := by omega
              have hl0 : ¬ (64 * ((P.length / 64 : Nat) : Int)) < (P.length : Int) := by omega
              obtain ⟨x, hx_⟩ : ∃ x, RowKit.Hid (x = stB P y (P.length / 64)) := ⟨_, Lib.hid rfl⟩
              rw [← hx_.out] at q6
              obtain ⟨K, hK⟩ : ∃ K, RowKit.Hid (K = P.length / 64) := ⟨_, Lib.hid rfl⟩
              rw [← hK.out] at hl0 ⊢
              clear hr' hk h64
              go_upto_region 16 with (fail)
              refine abs_world ?_
              intro w7 hw7
              have g7 : w7.heap[wr.heap.size]? = some (.cells (Row32 (byteS x) 0) 22 (0, 0)) := by rw [hw7]; exact heap_alloc_new wr _
              have b7 : Below wr.heap.size wr w7 := by rw [hw7]; exact (Below.refl _ _).alloc (Nat.le_refl _) _
              have q7 := (b7.block g6 lt6).trans q6
              have lt0 : w.heap.size < wr.heap.size := by omega
              have t7 := (b7.block w.heap.size lt0).trans qt
              have k7 := qb.trans (b7.mono qb.size)
              clear hw7 b7 q6 qt qb
              have INIT := Lib.hid (And.intro g7 (And.intro q7 (And.intro t7 k7)))
              clear g7 q7 t7 k7
              obtain ⟨g8, hg8⟩ : ∃ g8, RowKit.Hid (g8 = wr.heap.size) := ⟨_, Lib.hid rfl⟩
              rw [← hg8.out] at INIT lt0 lt6 ⊢
              go_loopw [9] (fun v wr => ∃ i : Nat, i ≤ 32 ∧ v = .int .i64 i ∧ wr.heap[g8]? = some (.cells (Row32 (byteS x) i) 22 (0, 0)) ∧ wr.heap[g6]? = some (.cells (S8 x) 57 (0, 0)) ∧ wr.heap[w.heap.size]? = some (.cells (Row32 (fun _ => 0) 0) 22 (0, 0)) ∧ Below w.heap.size w wr)
                (fun v _ => 32 - (intOf v).toNat)
              case atStart => exact ⟨0, by omega, rfl, INIT.out.1, INIT.out.2.1, INIT.out.2.2.1, INIT.out.2.2.2⟩
              case round =>
                clear INIT
                obtain ⟨i, hi, rfl, h8, h6, ht, hb⟩ := hrel
                by_cases hlt32 : i < 32
                · have cx : wr.cell? ⟨g6, i / 4, none⟩ = some (.int .u32 (x (i / 4))) := by rw [cell_of_row wr g6 (i / 4) _ _ _ h6, s8_at _ _ (by omega)]
                  have cz : wr.cell? ⟨g8, i, none⟩ = some (.int .u8 0) := by rw [cell_of_row wr g8 i _ _ _ h8, row32_at _ _ _ hlt32, if_neg (by omega)]
                  have fz : wr.frozen? ⟨g8, i, none⟩ = false := frozen_of_row wr g8 i _ _ h8
                  have GQ := Lib.hid (And.intro h8 (And.intro h6 (And.intro ht hb)))
                  clear h8 h6 ht hb
                  have l0 : (0 : Int) ≤ (i : Int) := by omega
                  have u0 : (i : Int) < 32 := by omega
                  have l4 : (0 : Int) ≤ (i : Int) / 4 := by omega
                  have u4 : (i : Int) / 4 < 8 := by omega
                  have t4 : ((i : Int) / 4).toNat = i / 4 := by omega
                  have s0 : (0 : Int) ≤ 24 - 8 * ((i : Int) % 4) := by omega
                  have s1 : 24 - 8 * ((i : Int) % 4) < 32 := by omega
                  have ts : (24 - 8 * ((i : Int) % 4)).toNat = 24 - 8 * (i % 4) := by omega
                  go_wp2
                  refine ⟨⟨i + 1, by omega, by go_num, ?_, ?_, ?_, GQ.out.2.2.2.setCell (by simp; omega) _⟩, by simp [intOf]; omega⟩
                  · have h := heap_setCell_same wr g8 i _ 22 (.int .u8 (byteS x i)) GQ.out.1
                    rw [row32_set _ _ hlt32] at h
                    exact h
                  · rw [heap_setCell_other _ _ _ _ (by simp; omega)]; exact GQ.out.2.1
                  · rw [heap_setCell_other _ _ _ _ (by simp; omega)]; exact GQ.out.2.2.1
                · obtain rfl : i = 32 := by omega
                  rw [show ((32 : Nat) : Int) = 32 from rfl]
                  clear hi hlt32 h6
                  go_wp2_with (first
                    | (refine wpList_load_row rfl 22 (.tmp 8) rfl g8 rfl 22 (Row32 (byteS x) 32) (0, 0) _ h8 Try.underlying22 rfl (by kernel_rfl) ?_)
                    | (refine wpList_store_rowTo rfl 22 (.tmp 2) (.tmp 75) rfl rfl w.heap.size (Row32 (byteS x) 32) rfl rfl 22 _ ht (by kernel_rfl) (by kernel_rfl) (by kernel_rfl) ?_; refine abs_list ?_; intro wf hwf))
                  have hg : wf.heap[w.heap.size]? = some (.cells (Row32 (byteS x) 32) 22 (0, 0)) := by rw [hwf]; exact setRow_heap _ _ _ _ _ _ ht
                  have hbf : Below w.heap.size w wf := by rw [hwf]; exact below_setRow hb (Nat.le_refl _) _
                  refine bodyPost_ret (results_cell_row (P := Try.prog) rfl _ _ w.heap.size 22 _ (0, 0) _ rfl hg Try.underlying22 rfl (by kernel_rfl)) rfl ⟨?_, hbf⟩
                  rw [hx_.out, hP.out]
    · have hmod : ¬ ((R.length : Int) + 1 + (k : Int)) % 64 = 56 := by unfold padZ at hkz hk; omega
      have HK := Lib.hid (And.intro hkz (And.intro hk hpz))
      clear hkz hk hpz
      go_wp2_with (first
        | (at_builtin; refine m_append (w0 := w1) (W := wr) B1 rfl (.tmp 21) (.tmp 22) 37 rfl Try.underlying37 info5 (.slice (some ⟨g4, 0, none⟩) (zeros R k).length c4) (zeros R k) 0 (by rw [zeros_len]; rfl) rfl F.out.1 F.out.2 (by rw [hB1.out]; exact F.out.2.size) (by rw [zeros_len]; have := HK.out.2; omega) ?_; intro v5 w5 hM5 hb5))
      have HKo := HK.out
      refine ⟨⟨k + 1, by omega, ?_, hb5⟩, ?_⟩
      · rw [zeros_succ] at hM5; exact hM5
      · obtain ⟨A6, c6, rfl, -, -, -⟩ := hM5.reads
        simp [zeros_len]; omega
end Go.Proofs.Ytcjhephlhgpfkaa.Sha

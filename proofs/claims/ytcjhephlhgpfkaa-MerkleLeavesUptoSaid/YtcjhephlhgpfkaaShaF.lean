/- What is proved: the contract of (*Hasher).Sum; the conditions stand in the theorem. -/
import Derived.Test.YtcjhephlhgpfkaaShaE
import Derived.Deep.DeepCutAuto
import Derived.Deep.CutBlock
namespace Go.Proofs.Ytcjhephlhgpfkaa.Sha
open Go.RowKit Go.Proofs.YtcjhephlhgpfkaaW.PrintWords Go.Proofs.YtcjhephlhgpfkaaW.PrintLast
set_option linter.unusedVariables false
set_option linter.unusedSimpArgs false
def padZ (m : Nat) : Nat := (119 - m) % 64
def zeros (R : List Int) (k : Nat) : List Int := (R ++ [128]) ++ List.replicate k 0
def lenL (n k : Nat) : List Int := (List.range k).map fun i => (n : Int) * 8 / 2 ^ (56 - 8 * i) % 256
def padK (R : List Int) (n k : Nat) : List Int := zeros R (padZ R.length) ++ lenL n k
theorem zeros_len (R : List Int) (k : Nat) : (zeros R k).length = R.length + 1 + k := by simp [zeros]; omega
theorem lenL_len (n k : Nat) : (lenL n k).length = k := by simp [lenL]
theorem padK_len (R : List Int) (n k : Nat) : (padK R n k).length = R.length + 1 + padZ R.length + k := by simp [padK, zeros_len, lenL_len]
theorem zeros_succ (R : List Int) (k : Nat) : zeros R k ++ [0] = zeros R (k + 1) := by simp [zeros, List.replicate_succ', List.append_assoc]
theorem padK_succ (R : List Int) (n k : Nat) : padK R n k ++ [(n : Int) * 8 / 2 ^ (56 - 8 * k) % 256] = padK R n (k + 1) := by simp [padK, lenL, List.range_succ, List.append_assoc]
theorem padK_bd {R : List Int} (hR : ∀ x ∈ R, 0 ≤ x ∧ x ≤ 255) (n k : Nat) : ∀ x ∈ padK R n k, 0 ≤ x ∧ x ≤ 255 := by
  intro x hx
  simp only [padK, zeros, lenL, List.mem_append, List.mem_map, List.mem_replicate, List.mem_singleton] at hx
  rcases hx with ((h | h) | h) | ⟨i, _, rfl⟩
  · exact hR x h
  · omega
  · omega
  · exact ⟨Int.emod_nonneg _ (by omega), by have := Int.emod_lt_of_pos ((n : Int) * 8 / 2 ^ (56 - 8 * i)) (show (0 : Int) < 256 by omega); omega⟩
def SumPost (y : Nat → Int) (R : List Int) (n : Nat) (w : World) (e : Ending) (w' : World) : Prop :=
  e = .returned (.agg (Row32 (byteS (stB (padK R n 8) y ((padK R n 8).length / 64))) 32)) ∧ Below w.heap.size w w'
set_option maxRecDepth 100000 in
set_option maxHeartbeats 8000000 in
theorem sum_any (w : World) (H : Nat) (y : Nat → Int) (A : Option Addr) (c : Nat) (R : List Int) (n : Nat) (hH : w.heap[H]? = some (.cells (Hc y (.slice A R.length c) n) 61 (0, 0)))
    (hr : ReadsInt w .u8 A R.length R) (hm : R.length < 64) (hR : ∀ x ∈ R, 0 ≤ x ∧ x ≤ 255) (hn : n ≤ 70368744177664) :
    Calls Try.prog 19 #[.pointer (some ⟨H, 0, none⟩)] w (SumPost y R n w) := by
  have hltH : H < w.heap.size := by rcases Nat.lt_or_ge H w.heap.size with h | h; exact h; rw [Array.getElem?_eq_none h] at hH; cases hH
  go_enter Try.func19, Try.ntmps19
  go_upto_region 1 with (fail)
  refine abs_world ?_
  intro w1 hw1
  have hb1 : Below w.heap.size w w1 := by rw [hw1]; exact (Below.refl _ _).alloc (Nat.le_refl _) _
  have z1 : w1.heap.size = w.heap.size + 1 := by rw [hw1]; exact Array.size_push _
  have t1 : w1.heap[w.heap.size]? = some (.cells (Row32 (fun _ => 0) 0) 23 (0, 0)) := by rw [hw1]; exact heap_alloc_new w _
  have g1 := (hb1.block H hltH).trans hH
  have r1 := hr.below hb1
  have c8 : w1.cell? ⟨H, 8, none⟩ = some (.slice A R.length c) := cell_of_row w1 H 8 _ _ _ g1
  have c10 : w1.cell? ⟨H, 10, none⟩ = some (.bool true) := cell_of_row w1 H 10 _ _ _ g1
  clear hw1 hH hr
  obtain ⟨B1, hB1⟩ : ∃ B1, RowKit.Hid (B1 = w1.heap.size) := ⟨_, Lib.hid rfl⟩
  have hB1' := hB1.out
  have G := Lib.hid (And.intro g1 (And.intro hb1 (And.intro z1 t1)))
  clear g1 hb1 z1 t1
  go_upto_region 4 with (first
    | (at_builtin; refine print_append_row (w0 := w1) B1 rfl (.const (.slice none 0 0)) (.tmp 20) 37 5 .u8 1 rfl Try.underlying37 info5 (by omega) (.slice none 0 0) [] R A R.length c rfl rfl (own_nil w1 _ 5 1) r1 (Below.refl _ _) (by rw [hB1.out]; exact Nat.le_refl _) (by simp; omega) ?_; intro v2 w2 hown2 hb2 hg2 hat2; simp only [List.nil_append] at hown2)
    | (at_builtin; refine print_append_num (w0 := w1) (W := w2) B1 rfl (.tmp 21) (.tmp 22) 37 5 .u8 1 rfl Try.underlying37 info5 (by omega) v2 R 128 rfl rfl hown2 hb2 (by rw [hB1.out]; exact hb2.size) (by simp; omega) ?_; intro v3 w3 hown3 hb3 hg3 hat3))
  have hz := zeros_len R
  have INIT := Lib.hid (And.intro hown3 hb3)
  clear hown3 hb3 hown2 hb2 hg2 hg3 hat2 hat3 c8 c10 r1
  go_loopw [3] (fun v wr => ∃ k, k ≤ padZ R.length ∧ wr.ownsRow B1 5 1 v (zeros R k).length (nums .u8 (zeros R k)) ∧ Below B1 w1 wr) (fun v _ => match v with | .slice _ n _ => 200 - n | _ => 0)
  case atStart => exact ⟨0, by omega, by simpa [zeros] using INIT.out.1, INIT.out.2⟩
  case round =>
    clear INIT
    obtain ⟨k, hk, hown, hb⟩ := hrel
    have hpz : padZ R.length < 64 := Nat.mod_lt _ (by omega)
    obtain ⟨A4, c4, rfl, hc4, hr4, hA4⟩ := own_shape hown
    have F := Lib.hid (And.intro hown (And.intro hb (And.intro hr4 hA4)))
    clear hown hb hr4 hA4
    rw [zeros_len] at hc4 ⊢
    by_cases hkz : k = padZ R.length
    · have hmod : ((R.length : Int) + 1 + (k : Int)) % 64 = 56 := by unfold padZ at hkz; omega
      have HK := Lib.hid hkz
      clear hkz hk hpz
      have kB : Below w.heap.size w wr := (G.out.2.1).trans (F.out.2.1.mono (by rw [hB1.out, G.out.2.2.1]; omega))
      have gH : wr.heap[H]? = some (.cells (Hc y (.slice A R.length c) n) 61 (0, 0)) := (F.out.2.1.block H (by rw [hB1.out, G.out.2.2.1]; omega)).trans G.out.1
      have c9 : wr.cell? ⟨H, 9, none⟩ = some (.int .u64 n) := cell_of_row wr H 9 _ _ _ gH
      have hn8 : IntKind.u64.wrap ((n : Int) * 8) = (n : Int) * 8 := by rw [IntKind.wrap_u64]; omega
      have KB := Lib.hid (And.intro kB gH)
      clear kB gH
      go_upto_region 8 with (fail)
      have INIT := Lib.hid (And.intro F.out.1 F.out.2.1)
      clear F hc4 hmod c9
      have hk2 := HK.out
      go_loopw [3, 36] (fun v iv wr => ∃ i : Nat, i ≤ 8 ∧ iv = .int .i64 i ∧ wr.ownsRow B1 5 1 v (padK R n i).length (nums .u8 (padK R n i)) ∧ Below B1 w1 wr) (fun _ iv _ => 8 - (intOf iv).toNat)
      case atStart =>
        refine ⟨0, by omega, rfl, ?_, INIT.out.2⟩
        have h := INIT.out.1
        rw [zeros_len] at h
        have e : padK R n 0 = zeros R k := by simp [padK, lenL, hk2]
        rw [e, zeros_len]
        exact h
      case round =>
        clear INIT
        rename_i wr' _ _ _
        obtain ⟨i, hi, rfl, hown, hb⟩ := hrel
        by_cases h8 : i < 8
        · have l0 : (0 : Int) ≤ (i : Int) := by omega
          have u0 : (i : Int) < 8 := by omega
          have s0 : (0 : Int) ≤ 56 - 8 * (i : Int) := by omega
          have s1 : (56 - 8 * (i : Int)) < 64 := by omega
          obtain ⟨A5, c5, rfl, -, -, -⟩ := own_shape hown
          have F := Lib.hid (And.intro hown hb)
          clear hown hb hk2
          go_wp2_with (first
            | (at_builtin; refine print_append_num (w0 := w1) (W := wr) B1 rfl (.tmp 39) (.tmp 46) 37 5 .u8 1 rfl Try.underlying37 info5 (by omega) (.slice A5 (padK R n i).length c5) (padK R n i) ((n : Int) * 8 / 2 ^ (56 - 8 * i) % 256) rfl rfl F.out.1 F.out.2 (by rw [hB1.out]; exact F.out.2.size) (by rw [padK_len]; have := HK.out; have : padZ R.length < 64 := Nat.mod_lt _ (by omega); omega) ?_; intro v5 w5 hown5 hb5 hg5 hat5))
          refine ⟨⟨i + 1, by omega, by go_num, ?_, hb5⟩, by simp [intOf]; omega⟩
          rw [padK_succ] at hown5; exact hown5
        · obtain rfl : i = 8 := by omega
          rw [show ((8 : Nat) : Int) = 8 from rfl]
          clear h8 hi hk2
          have hltB : H < B1 := by rw [hB1.out, G.out.2.2.1]; omega
          have gH : wr.heap[H]? = some (.cells (Hc y (.slice A R.length c) n) 61 (0, 0)) := (hb.block H hltB).trans G.out.1
          have cc0 : wr.cell? ⟨H, 0, none⟩ = some (.int .u32 (y 0)) := cell_of_row wr H 0 _ _ _ gH
          have cc1 : wr.cell? ⟨H, 1, none⟩ = some (.int .u32 (y 1)) := cell_of_row wr H 1 _ _ _ gH
          have cc2 : wr.cell? ⟨H, 2, none⟩ = some (.int .u32 (y 2)) := cell_of_row wr H 2 _ _ _ gH
          have cc3 : wr.cell? ⟨H, 3, none⟩ = some (.int .u32 (y 3)) := cell_of_row wr H 3 _ _ _ gH
          have cc4 : wr.cell? ⟨H, 4, none⟩ = some (.int .u32 (y 4)) := cell_of_row wr H 4 _ _ _ gH
          have cc5 : wr.cell? ⟨H, 5, none⟩ = some (.int .u32 (y 5)) := cell_of_row wr H 5 _ _ _ gH
          have cc6 : wr.cell? ⟨H, 6, none⟩ = some (.int .u32 (y 6)) := cell_of_row wr H 6 _ _ _ gH
          have cc7 : wr.cell? ⟨H, 7, none⟩ = some (.int .u32 (y 7)) := cell_of_row wr H 7 _ _ _ gH
          obtain ⟨A5, c5, rfl, hc5, hr5, hA5⟩ := own_shape hown
          have F := Lib.hid (And.intro hr5 (And.intro hb hc5))
          clear hown hb hc5 hr5 hA5 gH
          go_upto_region 13 with (first
            | (refine wpList_store_rowTo rfl 58 (.tmp 6) (.tmp 52) rfl rfl wr.heap.size (S8 y) rfl rfl 58 _ (heap_alloc_new wr _) (by kernel_rfl) (by kernel_rfl) (by kernel_rfl) ?_; refine abs_list ?_; intro wc hwc))
          obtain ⟨P, hP⟩ : ∃ P, RowKit.Hid (P = padK R n 8) := ⟨_, Lib.hid rfl⟩
          have FI := F.out
          have hPl : P.length = R.length + 1 + padZ R.length + 8 := by rw [hP.out, padK_len]
          have hP64 : P.length % 64 = 0 := by rw [hPl]; unfold padZ; omega
          have hPb : ∀ x ∈ P, 0 ≤ x ∧ x ≤ 255 := by rw [hP.out]; exact padK_bd hR n 8
          have hPs : P.length ≤ 200 := by rw [hPl]; have : padZ R.length < 64 := Nat.mod_lt _ (by omega); omega
          have hP0 : 0 < P.length := by omega
          rw [← hP.out] at FI ⊢
          have ha5 : ∀ ad, A5 = some ad → ad.block ≠ wr.heap.size := by
            intro ad e
            obtain ⟨ad', e', hc⟩ := FI.1.2.2 hP0
            have h0 := hc 0 hP0
            rw [e] at e'
            injection e' with e'
            subst e'
            have := World.block_lt_of_cell? wr (ad.add 0) h0
            rw [addr_add_block] at this
            omega
          have hbc : Below wr.heap.size wr wc := by rw [hwc]; exact below_setRow ((Below.refl _ _).alloc (Nat.le_refl _) _) (Nat.le_refl _) _
          have s6 : wc.heap[wr.heap.size]? = some (.cells (S8 y) 58 (0, 0)) := by rw [hwc]; exact setRow_heap _ _ _ _ _ _ (heap_alloc_new wr _)
          have zw : w.heap.size < wr.heap.size := by have := FI.2.1.size; have := G.out.2.2.1; omega
          have kc : Below w.heap.size w wc := (G.out.2.1).trans ((FI.2.1.mono (by rw [hB1.out, G.out.2.2.1]; omega)).trans (hbc.mono (by omega)))
          have tc : wc.heap[w.heap.size]? = some (.cells (Row32 (fun _ => 0) 0) 23 (0, 0)) := by
            rw [hbc.block _ zw, FI.2.1.block _ (by rw [hB1.out, G.out.2.2.1]; omega)]; exact G.out.2.2.2
          have rc := FI.1.below hbc
          have INIT := Lib.hid (And.intro s6 (And.intro tc (And.intro kc (And.intro rc (And.intro FI.2.2 ha5)))))
          clear s6 tc kc rc ha5 FI F hbc hwc cc0 cc1 cc2 cc3 cc4 cc5 cc6 cc7 KB HK hPl
          obtain ⟨g6, hg6⟩ : ∃ g6, RowKit.Hid (g6 = wr.heap.size) := ⟨_, Lib.hid rfl⟩
          rw [← hg6.out] at INIT zw ⊢
          go_loopw [3] (fun v wr => ∃ (k c' : Nat) (A' : Option Addr), 64 * k ≤ P.length ∧ v = .slice A' (P.drop (64 * k)).length c' ∧ (P.drop (64 * k)).length ≤ c' ∧ ReadsInt wr .u8 A' (P.drop (64 * k)).length (P.drop (64 * k)) ∧ (∀ ad, A' = some ad → ad.block ≠ g6) ∧
              wr.heap[g6]? = some (.cells (S8 (stB P y k)) 58 (0, 0)) ∧ wr.heap[w.heap.size]? = some (.cells (Row32 (fun _ => 0) 0) 23 (0, 0)) ∧ Below w.heap.size w wr)
            (fun v _ => match v with | .slice _ n _ => n | _ => 0)
          case atStart => exact ⟨0, c5, A5, by omega, by simp, by simpa using INIT.out.2.2.2.2.1, by simpa using INIT.out.2.2.2.1, INIT.out.2.2.2.2.2, INIT.out.1, INIT.out.2.1, INIT.out.2.2.1⟩
          case round =>
            clear INIT
            obtain ⟨k, c', A', hk, rfl, hc', hr', hA', q6, qt, qb⟩ := hrel
            have hdl : (P.drop (64 * k)).length = P.length - 64 * k := List.length_drop
            by_cases h64 : 0 < P.length - 64 * k
            · obtain ⟨ad, rfl, hcd0⟩ := hr'.2.2 (by omega)
              obtain ⟨x, hx_⟩ : ∃ x, RowKit.Hid (x = stB P y k) := ⟨_, Lib.hid rfl⟩
              rw [← hx_.out] at q6
              obtain ⟨Bk, hBk_⟩ : ∃ Bk : Nat → Int, RowKit.Hid (Bk = fun i => P.getD (64 * k + i) 0) := ⟨_, Lib.hid rfl⟩
              have hcd : ∀ i, i < 64 → wr.cell? (ad.add i) = some (.int .u8 (Bk i)) := by
                intro i hi
                rw [hcd0 i (by omega), hBk_.out]
                simp [List.getD, List.getElem?_drop]
              have hBd : ∀ i, 0 ≤ Bk i ∧ Bk i ≤ 255 := by
                intro i; rw [hBk_.out]; exact byte_bd hPb _
              have hltd : ad.block < wr.heap.size := World.block_lt_of_cell? wr _ (by have := hcd 0 (by omega); exact this)
              have lt6 : g6 < wr.heap.size := by rcases Nat.lt_or_ge g6 wr.heap.size with h | h; exact h; rw [Array.getElem?_eq_none h] at q6; cases q6
              have GG := Lib.hid (And.intro q6 (And.intro qt (And.intro qb hr')))
              clear qt qb hr' hcd0
              have hl0 : (0 : Int) < ((P.length - 64 * k : Nat) : Int) := by omega
              go_upto_region 14 with (first
                | (refine wpList_load_row rfl 58 (.tmp 6) rfl g6 rfl 58 (S8 x) (0, 0) _ q6 Try.underlying58 rfl (by kernel_rfl) ?_)
                | (go_at_call 27; refine (block_any x ad (P.length - 64 * k) c' Bk _ (by omega) hcd hBd hltd).mono ?_; rintro e wd ⟨rfl, hbd⟩)
                | (refine wpList_store_rowTo rfl 58 (.tmp 6) (.tmp 60) rfl rfl g6 (S8 (blockS Bk x)) rfl rfl 58 _ ((hbd.block g6 lt6).trans q6) (by kernel_rfl) (by kernel_rfl) (by kernel_rfl) ?_; refine abs_list ?_; intro we hwe))
              have rq : ReadsInt we .u8 (some ad) (P.drop (64 * k)).length (P.drop (64 * k)) := by
                rw [hwe]
                exact reads_gb GG.out.2.2.2 (gb_setRow (gb_below (gb_refl wr (some g6)) hbd (Nat.le_refl _)) _) (fun a e _ => hA' a e)
              have s6 : we.heap[g6]? = some (.cells (S8 (stB P y (k + 1))) 58 (0, 0)) := by
                rw [hwe, setRow_heap _ _ _ _ _ _ ((hbd.block g6 lt6).trans q6)]
                show _ = some (Obj.cells (S8 (blockS (fun i => P.getD (64 * k + i) 0) (stB P y k))) _ _)
                rw [← hBk_.out, ← hx_.out]
              have kq : Below w.heap.size w we := by
                rw [hwe]
                exact below_setRow (GG.out.2.2.1.trans (hbd.mono GG.out.2.2.1.size)) (by omega) _
              have tq : we.heap[w.heap.size]? = some (.cells (Row32 (fun _ => 0) 0) 23 (0, 0)) := by
                rw [hwe, heap_setRow_other _ _ _ _ (by omega), hbd.block _ (by omega)]; exact GG.out.2.1
              have REL := Lib.hid (And.intro s6 (And.intro tq (And.intro kq rq)))
              clear s6 tq kq rq hwe GG hbd q6 hcd hBd hltd
              obtain ⟨i0, hi, hz0, hz1, hz2⟩ := info_parts info5
              obtain ⟨A7, hcut, hread7, hA7⟩ := cut_far (P := Try.prog) 37 5 .i64 Try.underlying37 hi hz1 (some ad) (P.length - 64 * k) c' 64 (by omega) g6 hA'
              simp only [Int.cast_ofNat_Int] at hcut
              go_wp2
              have hd5 : (P.drop (64 * k)).drop 64 = P.drop (64 * (k + 1)) := by rw [List.drop_drop]; rfl
              have rd := hread7 we .u8 _ (by omega) (by have := REL.out.2.2.2; rwa [hdl] at this)
              rw [hd5] at rd
              have hd6 : (P.drop (64 * (k + 1))).length = P.length - 64 * k - 64 := by rw [List.length_drop]; omega
              refine ⟨⟨k + 1, c' - 64, A7, by omega, by rw [hd6], by omega, ?_, hA7, REL.out.1, REL.out.2.1, REL.out.2.2.1⟩, ?_⟩
              · rw [hd6]; exact rd
              · simp; omega
            · obtain rfl : k = P.length / 64 := by omega
              have hl0 : ¬ (0 : Int) < ((P.length - 64 * (P.length / 64) : Nat) : Int) := by omega
              have lt0 : w.heap.size < wr.heap.size := by rcases Nat.lt_or_ge w.heap.size wr.heap.size with h | h; exact h; rw [Array.getElem?_eq_none h] at qt; cases qt
              clear hc' hr' hA'
              go_wp2_with (first
                | (refine wpList_load_row rfl 58 (.tmp 6) rfl g6 rfl 58 (S8 (stB P y (P.length / 64))) (0, 0) _ q6 Try.underlying58 rfl (by kernel_rfl) ?_)
                | (go_at_call 28; refine (laid_any (stB P y (P.length / 64)) _).mono ?_; rintro e wd ⟨rfl, hbd⟩)
                | (refine wpList_store_rowTo rfl 23 (.tmp 2) (.tmp 62) rfl rfl w.heap.size (Row32 (byteS (stB P y (P.length / 64))) 32) rfl rfl 23 _ ((hbd.block w.heap.size lt0).trans qt) (by kernel_rfl) (by kernel_rfl) (by kernel_rfl) ?_; refine abs_list ?_; intro we hwe))
              have hg : we.heap[w.heap.size]? = some (.cells (Row32 (byteS (stB P y (P.length / 64))) 32) 23 (0, 0)) := by
                rw [hwe]; exact setRow_heap _ _ _ _ _ _ ((hbd.block w.heap.size lt0).trans qt)
              have hb : Below w.heap.size w we := by rw [hwe]; exact below_setRow (qb.trans (hbd.mono qb.size)) (Nat.le_refl _) _
              refine bodyPost_ret (results_cell_row (P := Try.prog) rfl _ _ w.heap.size 23 _ (0, 0) _ rfl hg Try.underlying23 rfl (by kernel_rfl)) rfl ⟨?_, hb⟩
              rw [hP.out]
    · have hmod : ¬ ((R.length : Int) + 1 + (k : Int)) % 64 = 56 := by unfold padZ at hkz hk; omega
      have HK := Lib.hid (And.intro hkz (And.intro hk hpz))
      clear hkz hk hpz
      go_wp2_with (first
        | (at_builtin; refine print_append_num (w0 := w1) (W := wr) B1 rfl (.tmp 28) (.tmp 29) 37 5 .u8 1 rfl Try.underlying37 info5 (by omega) (.slice A4 (zeros R k).length c4) (zeros R k) 0 (by rw [zeros_len]; rfl) rfl F.out.1 F.out.2.1 (by rw [hB1.out]; exact F.out.2.1.size) (by rw [zeros_len]; have := HK.out.2; omega) ?_; intro v5 w5 hown5 hb5 hg5 hat5))
      have HKo := HK.out
      refine ⟨⟨k + 1, by omega, ?_, hb5⟩, ?_⟩
      · rw [zeros_succ] at hown5; exact hown5
      · obtain ⟨A6, c6, rfl, -, -, -⟩ := own_shape hown5
        simp [zeros_len]; omega
end Go.Proofs.Ytcjhephlhgpfkaa.Sha

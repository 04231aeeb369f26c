/- What is proved: the contract of the reference's Leaf of any rows; the conditions stand in the theorems. -/
import Derived.Test.YtcjhephlhgpfkaaShaRowB
import Derived.Deep.DeepCutAuto
import Derived.Deep.CutBlock
namespace Go.Proofs.Ytcjhephlhgpfkaa.Sha
open Go.RowKit Go.Proofs.YtcjhephlhgpfkaaW.PrintWords Go.Proofs.YtcjhephlhgpfkaaW.PrintLast Go.Proofs.Ytcjhephlhgpfkaa.PMerkleLeaves
set_option linter.unusedVariables false
set_option linter.unusedSimpArgs false
def leafL (rows : List S33) : List Int := 0 :: rows.flatMap (fun r => rowB r.f0 r.f1 r.f2)
theorem leaf_take_le (rows : List S33) (k : Nat) : (leafL (rows.take k)).length ≤ (leafL rows).length := by
  have h : rows.flatMap (fun r => rowB r.f0 r.f1 r.f2) = (rows.take k).flatMap (fun r => rowB r.f0 r.f1 r.f2) ++ (rows.drop k).flatMap (fun r => rowB r.f0 r.f1 r.f2) := by
    rw [← List.flatMap_append, List.take_append_drop]
  unfold leafL
  rw [h]
  simp only [List.length_cons, List.length_append]
  omega
theorem leaf_snoc (rows : List S33) (i : Nat) (h : i < rows.length) : leafL (rows.take i) ++ rowB (rd_T33 rows (i : Int)).f0 (rd_T33 rows (i : Int)).f1 (rd_T33 rows (i : Int)).f2 = leafL (rows.take (i + 1)) := by
  have e : rd_T33 rows (i : Int) = rows[i] := by
    unfold rd_T33
    simp [List.getD, List.getElem?_eq_getElem h]
  rw [e, List.take_add_one, List.getElem?_eq_getElem h]
  unfold leafL
  rw [List.flatMap_append]
  simp
theorem rowB_size (f0 f1 : ByteArray) (f2 : Int) : f0.size + f1.size ≤ (rowB f0 f1 f2).length := by
  unfold rowB textB
  simp only [List.length_append, bytesOf_length]
  omega
theorem bytesOf_range (s : ByteArray) : ∀ x ∈ bytesOf s, 0 ≤ x ∧ x ≤ 255 := by
  intro x hx
  unfold bytesOf at hx
  obtain ⟨b, -, rfl⟩ := List.mem_map.1 hx
  have := b.toNat_lt
  omega
theorem rowB_range (f0 f1 : ByteArray) (f2 : Int) (h0 : f0.size ≤ 35184372088832) (h1 : f1.size ≤ 35184372088832) : ∀ x ∈ rowB f0 f1 f2, 0 ≤ x ∧ x ≤ 255 := by
  intro x hx
  unfold rowB textB at hx
  simp only [List.mem_append] at hx
  rcases hx with (hx | hx) | (hx | hx) | hx
  · exact lebB_bytes _ (by omega) x hx
  · exact bytesOf_range _ x hx
  · exact lebB_bytes _ (by omega) x hx
  · exact bytesOf_range _ x hx
  · exact lebB_bytes _ (wrap_range _).2 x hx
theorem leafL_mem (rows : List S33) (r : S33) (hr : r ∈ rows) : (rowB r.f0 r.f1 r.f2).length ≤ (leafL rows).length := by
  induction rows with
  | nil => cases hr
  | cons a l ih =>
    unfold leafL at ih ⊢
    simp only [List.flatMap_cons, List.length_cons, List.length_append] at ih ⊢
    rcases List.mem_cons.1 hr with rfl | hr
    · omega
    · have := ih hr; omega
theorem leafL_range (rows : List S33) (h : (leafL rows).length ≤ 35184372088832) : ∀ x ∈ leafL rows, 0 ≤ x ∧ x ≤ 255 := by
  intro x hx
  unfold leafL at hx
  rcases List.mem_cons.1 hx with rfl | hx
  · decide
  · obtain ⟨r, hr, hx⟩ := List.mem_flatMap.1 hx
    have h1 := leafL_mem rows r hr
    have h2 := rowB_size r.f0 r.f1 r.f2
    exact rowB_range _ _ _ (by omega) (by omega) x hx
set_option maxRecDepth 100000 in
set_option maxHeartbeats 8000000 in
theorem rleaf_any (w : World) (A : Option Addr) (c : Nat) (rows : List S33) (L : List Int) (hL : RowKit.Hid (L = leafL rows)) (hr : Kd.C k33 w A rows.length rows) (hc : rows.length ≤ c) (hlen : (leafL rows).length ≤ 35184372088832) :
    Calls Try.prog 11 #[.slice A rows.length c] w fun e w' => e = .returned (digV L) ∧ Below w.heap.size w w' := by
  have RR := Lib.hid (And.intro hr (And.intro hlen (leafL_range rows hlen)))
  have hmax := Kd.C_max hr
  clear hr hlen
  obtain ⟨n, hn⟩ : ∃ n, RowKit.Hid (n = rows.length) := ⟨_, Lib.hid rfl⟩
  rw [← hn.out] at hc hmax ⊢
  go_enter Try.func11, Try.ntmps11
  go_upto_region 1 with (fail)
  refine abs_world ?_
  intro w1 hw1
  have hb1 : Below w.heap.size w w1 := by rw [hw1]; exact (Below.refl _ _).alloc (Nat.le_refl _) _
  have z1 : w1.heap.size = w.heap.size + 1 := by rw [hw1]; exact Array.size_push _
  have t1 : w1.heap[w.heap.size]? = some (.cells (Row32 (fun _ => 0) 0) 23 (0, 0)) := by rw [hw1]; exact heap_alloc_new w _
  clear hw1
  have Z1 := Lib.hid z1
  have G1 := Lib.hid (And.intro hb1 t1)
  clear hb1 t1 z1
  go_upto_region 3 with (fail)
  refine abs_world ?_
  intro w3 hw3
  have hb3 : Below w1.heap.size w1 w3 := by rw [hw3]; exact (Below.refl _ _).alloc (Nat.le_refl _) _
  have o3 : w3.ownsRow w1.heap.size 5 1 (.slice (some ⟨w1.heap.size, 0, none⟩) 1 1) [(0 : Int)].length (nums .u8 [0]) := by
    have g3 : w3.heap[w1.heap.size]? = some (.cells #[.int .u8 0] 5 (0, 0)) := by rw [hw3]; exact heap_alloc_new w1 _
    exact ⟨rfl, .inr ⟨w1.heap.size, 1, _, rfl, Nat.le_refl _, g3, by decide, by decide, rfl, rfl⟩⟩
  have z1 := Z1.out
  have t3 := (hb3.block w.heap.size (by omega)).trans G1.out.2
  have b3 : Below w.heap.size w w3 := G1.out.1.trans (hb3.mono (by omega))
  have z3 : w.heap.size + 1 ≤ w3.heap.size := by have := hb3.size; omega
  obtain ⟨BB, hBB⟩ : ∃ BB, RowKit.Hid (BB = w1.heap.size) := ⟨_, Lib.hid rfl⟩
  have hB2 : BB = w.heap.size + 1 := by rw [hBB.out]; exact z1
  rw [← hBB.out] at o3 ⊢
  clear hw3 hb3 G1 z1 Z1
  have HB2 := Lib.hid hB2
  clear hB2
  have G := Lib.hid (And.intro t3 (And.intro b3 (And.intro z3 o3)))
  clear t3 b3 z3 o3
  go_loopw [3, 4] (fun v iv wr => ∃ i : Nat, i ≤ n ∧ iv = .int .i64 i ∧ wr.ownsRow BB 5 1 v (leafL (rows.take i)).length (nums .u8 (leafL (rows.take i))) ∧ Below BB w3 wr) (fun _ iv _ => n - (intOf iv).toNat)
  case atStart => exact ⟨0, by omega, rfl, G.out.2.2.2, Below.refl _ _⟩
  case round =>
    obtain ⟨i, hi, rfl, hown, hb⟩ := hrel
    by_cases hlt : i < n
    · have l16 : (0 : Int) ≤ (i : Int) := by omega
      have u16 : (i : Int) < (n : Int) := by omega
      have hi3 : i < rows.length := by rw [← hn.out]; exact hlt
      have hbw : Below w.heap.size w wr := G.out.2.1.trans (hb.mono (by have := HB2.out; omega))
      have hbs : BB ≤ wr.heap.size := by have := hb.size; have := G.out.2.2.1; have := HB2.out; omega
      obtain ⟨ad, eA, x0, x1, x2⟩ := at_T33 (Kd.C_below RR.out.1 hbw) (i : Int) l16 (by omega)
      simp only [Int.toNat_natCast] at x0 x1 x2
      have hsn := leaf_snoc rows i hi3
      have htl := leaf_take_le rows (i + 1)
      obtain ⟨f0, hf0⟩ : ∃ f, RowKit.Hid (f = (rd_T33 rows (i : Int)).f0) := ⟨_, Lib.hid rfl⟩
      obtain ⟨f1, hf1⟩ : ∃ f, RowKit.Hid (f = (rd_T33 rows (i : Int)).f1) := ⟨_, Lib.hid rfl⟩
      obtain ⟨f2, hf2⟩ : ∃ f, RowKit.Hid (f = (rd_T33 rows (i : Int)).f2) := ⟨_, Lib.hid rfl⟩
      rw [← hf0.out] at x0 hsn
      rw [← hf1.out] at x1 hsn
      rw [← hf2.out] at x2 hsn
      obtain ⟨xs, hxs⟩ : ∃ xs, RowKit.Hid (xs = leafL (rows.take i)) := ⟨_, Lib.hid rfl⟩
      rw [← hxs.out] at hown hsn
      have hrs := rowB_size f0 f1 f2
      have hxl : xs.length + (rowB f0 f1 f2).length ≤ 35184372088832 := by rw [← List.length_append, hsn]; have := RR.out.2.1; omega
      have eN := Lib.hid hsn
      have hq0 : f0.size ≤ 35184372088832 := by omega
      have hq1 : f1.size ≤ 35184372088832 := by omega
      have HX := Lib.hid (And.intro hxl (And.intro hrs (And.intro hq0 hq1)))
      clear hsn htl hf0 hf1 hf2 hxl hrs hq0 hq1 hi3
      replace l16 := eq_true l16
      replace u16 := eq_true u16
      obtain ⟨A5, c5, rfl, -, -, -⟩ := own_shape hown
      cases eA
      have F := Lib.hid (And.intro hown (And.intro hb hbs))
      clear hown hb hbs
      have hcall := fun W => rowBytes_any W f0 f1 f2 HX.out.2.2.1 HX.out.2.2.2
      obtain ⟨R, hR⟩ : ∃ R, RowKit.Hid (R = rowB f0 f1 f2) := ⟨_, Lib.hid rfl⟩
      rw [← hR.out] at hcall
      have HL2 : RowKit.Hid (xs.length + R.length ≤ 35184372088832) := Lib.hid (by rw [hR.out]; exact HX.out.1)
      have eN2 : RowKit.Hid (xs ++ R = leafL (rows.take (i + 1))) := Lib.hid (by rw [hR.out]; exact eN.out)
      clear eN
      go_wp2_with (first
        | (go_at_call 16; refine (hcall _).mono ?_; rintro e wd ⟨vd, rfl, hownd, hbd⟩; obtain ⟨Ad, cd, rfl, hcd, hrd, -⟩ := own_shape hownd)
        | (at_builtin; refine print_append_row (w0 := w3) BB rfl (.tmp 12) (.tmp 17) 37 5 .u8 1 rfl Try.underlying37 info5 (by omega) (.slice A5 xs.length c5) xs R Ad R.length cd rfl rfl (pw_own_below F.out.1 hbd) hrd (F.out.2.1.trans (hbd.mono F.out.2.2)) (Nat.le_trans F.out.2.2 hbd.size) (by have := HL2.out; omega) ?_; intro v6 w6 hown6 hb6 hg6 hat6))
      refine ⟨⟨i + 1, by omega, by go_num, ?_, hb6⟩, by simp [intOf]; omega⟩
      rw [eN2.out] at hown6; exact hown6
    · obtain rfl : i = n := by omega
      have hfull : rows.take i = rows := List.take_of_length_le (by rw [hn.out]; exact Nat.le_refl _)
      rw [hfull] at hown
      rw [← hL.out] at hown
      have hLl : RowKit.Hid (L.length ≤ 35184372088832) := Lib.hid (by rw [hL.out]; exact RR.out.2.1)
      have hLb : ∀ x ∈ L, 0 ≤ x ∧ x ≤ 255 := by
        intro x hx
        rw [hL.out] at hx
        exact RR.out.2.2 x hx
      clear hfull
      obtain ⟨A5, c5, rfl, hc5, hr5, -⟩ := own_shape hown
      obtain ⟨w4, hw4⟩ : ∃ w4, RowKit.Hid (w4 = wr.alloc (.cells #[.slice A5 L.length c5] 37)) := ⟨_, Lib.hid rfl⟩
      have b4 : Below wr.heap.size wr w4 := by rw [hw4.out]; exact (Below.refl _ _).alloc (Nat.le_refl _) _
      have p4 : w4.cell? ⟨wr.heap.size, 0, none⟩ = some (.slice A5 L.length c5) := by rw [hw4.out]; exact cell_of_row _ wr.heap.size 0 _ _ _ (heap_alloc_new wr _)
      have r4 := hr5.below b4
      have B2 := HB2.out
      have hzz := hb.size
      have hz3 := G.out.2.2.1
      have t4 := (b4.block w.heap.size (by omega)).trans ((hb.block w.heap.size (by omega)).trans G.out.1)
      have lt4 : w.heap.size < w4.heap.size := by have := b4.size; omega
      have k4 : Below w.heap.size w w4 := G.out.2.1.trans ((hb.mono (by omega)).trans (b4.mono (by omega)))
      have hlt' : ¬ ((i : Int) < (i : Int)) := by omega
      clear hown hb hr5 hzz hz3 B2
      go_wp2_with (first
        | (go_at_call 13; rw [← hw4.out]; refine (rone_any w4 ⟨wr.heap.size, 0, none⟩ 1 A5 c5 L p4 r4 hc5 hLb (by have := hLl.out; omega)).mono ?_; rintro e wd ⟨rfl, hbd⟩)
        | (refine wpList_store_rowTo rfl 23 (.tmp 2) (.tmp 21) rfl rfl w.heap.size (Row32 (shaF L) 32) rfl rfl 23 _ ((hbd.block w.heap.size lt4).trans t4) (by kernel_rfl) (by kernel_rfl) (by kernel_rfl) ?_; refine abs_list ?_; intro we hwe))
      have hg : we.heap[w.heap.size]? = some (.cells (Row32 (shaF L) 32) 23 (0, 0)) := by
        rw [hwe]; exact setRow_heap _ _ _ _ _ _ ((hbd.block w.heap.size lt4).trans t4)
      have hbe : Below w.heap.size w we := by rw [hwe]; exact below_setRow (k4.trans (hbd.mono k4.size)) (Nat.le_refl _) _
      exact bodyPost_ret (results_cell_row (P := Try.prog) rfl _ _ w.heap.size 23 _ (0, 0) _ rfl hg Try.underlying23 rfl (by kernel_rfl)) rfl ⟨rfl, hbe⟩
end Go.Proofs.Ytcjhephlhgpfkaa.Sha

/- What is proved: the contract of merkle.Leaf of any rows; the conditions stand in the theorem. -/
import Derived.Test.YtcjhephlhgpfkaaShaRLeaf
import Derived.Deep.DeepCutAuto
import Derived.Deep.CutBlock
namespace Go.Proofs.Ytcjhephlhgpfkaa.Sha
open Go.RowKit Go.Proofs.YtcjhephlhgpfkaaW.PrintWords Go.Proofs.YtcjhephlhgpfkaaW.PrintLast Go.Proofs.Ytcjhephlhgpfkaa.PMerkleLeaves
set_option linter.unusedVariables false
set_option linter.unusedSimpArgs false
set_option maxRecDepth 100000 in
set_option maxHeartbeats 8000000 in
theorem leaf_any (w : World) (A : Option Addr) (c : Nat) (rows : List S33) (L : List Int) (hL : RowKit.Hid (L = leafL rows)) (hr : Kd.C k33 w A rows.length rows) (hc : rows.length ≤ c) (hlen : (leafL rows).length ≤ 35184372088832) :
    Calls Try.prog 9 #[.slice A rows.length c] w fun e w' => e = .returned (digV L) ∧ Below w.heap.size w w' := by
  have RR := Lib.hid (And.intro hr (And.intro hlen (leafL_range rows hlen)))
  have hmax := Kd.C_max hr
  clear hr hlen
  obtain ⟨n, hn⟩ : ∃ n, RowKit.Hid (n = rows.length) := ⟨_, Lib.hid rfl⟩
  rw [← hn.out] at hc hmax ⊢
  go_enter Try.func9, Try.ntmps9
  go_upto_region 1 with (fail)
  refine abs_world ?_
  intro w1 hw1
  have hb1 : Below w.heap.size w w1 := by rw [hw1]; exact (Below.refl _ _).alloc (Nat.le_refl _) _
  have z1 : w1.heap.size = w.heap.size + 1 := by rw [hw1]; exact Array.size_push _
  have t1 : w1.heap[w.heap.size]? = some (.cells (Row32 (fun _ => 0) 0) 23 (0, 0)) := by rw [hw1]; exact heap_alloc_new w _
  clear hw1
  have Z1 := Lib.hid z1
  have G1 := Lib.hid (And.intro hb1 t1)
  clear hb1 t1 z1
  go_upto_region 3 with (fail)
  refine abs_world ?_
  intro w3 hw3
  have hb3 : Below w1.heap.size w1 w3 := by rw [hw3]; exact (Below.refl _ _).alloc (Nat.le_refl _) _
  have o3 : w3.ownsRow w1.heap.size 5 1 (.slice (some ⟨w1.heap.size, 0, none⟩) 1 1) [(0 : Int)].length (nums .u8 [0]) := by
    have g3 : w3.heap[w1.heap.size]? = some (.cells #[.int .u8 0] 5 (0, 0)) := by rw [hw3]; exact heap_alloc_new w1 _
    exact ⟨rfl, .inr ⟨w1.heap.size, 1, _, rfl, Nat.le_refl _, g3, by decide, by decide, rfl, rfl⟩⟩
  have z1 := Z1.out
  have t3 := (hb3.block w.heap.size (by omega)).trans G1.out.2
  have b3 : Below w.heap.size w w3 := G1.out.1.trans (hb3.mono (by omega))
  have z3 : w.heap.size + 1 ≤ w3.heap.size := by have := hb3.size; omega
  obtain ⟨BB, hBB⟩ : ∃ BB, RowKit.Hid (BB = w1.heap.size) := ⟨_, Lib.hid rfl⟩
  have hB2 : BB = w.heap.size + 1 := by rw [hBB.out]; exact z1
  rw [← hBB.out] at o3 ⊢
  clear hw3 hb3 G1 z1 Z1
  have HB2 := Lib.hid hB2
  clear hB2
  have G := Lib.hid (And.intro t3 (And.intro b3 (And.intro z3 o3)))
  clear t3 b3 z3 o3
  go_loopw [3, 9] (fun v iv wr => ∃ i : Nat, i ≤ n ∧ iv = .int .i64 i ∧ wr.ownsRow BB 5 1 v (leafL (rows.take i)).length (nums .u8 (leafL (rows.take i))) ∧ Below BB w3 wr) (fun _ iv _ => n - (intOf iv).toNat)
  case atStart => exact ⟨0, by omega, rfl, G.out.2.2.2, Below.refl _ _⟩
  case round =>
    obtain ⟨i, hi, rfl, hown, hb⟩ := hrel
    by_cases hlt : i < n
    · have l16 : (0 : Int) ≤ (i : Int) := by omega
      have u16 : (i : Int) < (n : Int) := by omega
      have hi3 : i < rows.length := by rw [← hn.out]; exact hlt
      have hbw : Below w.heap.size w wr := G.out.2.1.trans (hb.mono (by have := HB2.out; omega))
      have hbs : BB ≤ wr.heap.size := by have := hb.size; have := G.out.2.2.1; have := HB2.out; omega
      obtain ⟨ad, eA, x0, x1, x2⟩ := at_T33 (Kd.C_below RR.out.1 hbw) (i : Int) l16 (by omega)
      simp only [Int.toNat_natCast] at x0 x1 x2
      have hsn := leaf_snoc rows i hi3
      have htl := leaf_take_le rows (i + 1)
      obtain ⟨f0, hf0⟩ : ∃ f, RowKit.Hid (f = (rd_T33 rows (i : Int)).f0) := ⟨_, Lib.hid rfl⟩
      obtain ⟨f1, hf1⟩ : ∃ f, RowKit.Hid (f = (rd_T33 rows (i : Int)).f1) := ⟨_, Lib.hid rfl⟩
      obtain ⟨f2, hf2⟩ : ∃ f, RowKit.Hid (f = (rd_T33 rows (i : Int)).f2) := ⟨_, Lib.hid rfl⟩
      rw [← hf0.out] at x0 hsn
      rw [← hf1.out] at x1 hsn
      rw [← hf2.out] at x2 hsn
      obtain ⟨xs, hxs⟩ : ∃ xs, RowKit.Hid (xs = leafL (rows.take i)) := ⟨_, Lib.hid rfl⟩
      rw [← hxs.out] at hown hsn
      have hrs := rowB_size f0 f1 f2
      have hxl : xs.length + (rowB f0 f1 f2).length ≤ 35184372088832 := by rw [← List.length_append, hsn]; have := RR.out.2.1; omega
      have eN := Lib.hid hsn
      have hq0 : f0.size ≤ 35184372088832 := by omega
      have hq1 : f1.size ≤ 35184372088832 := by omega
      have HX := Lib.hid (And.intro hxl (And.intro hrs (And.intro hq0 hq1)))
      clear hsn htl hf0 hf1 hf2 hxl hrs hq0 hq1 hi3
      replace l16 := eq_true l16
      replace u16 := eq_true u16
      obtain ⟨A5, c5, rfl, -, -, -⟩ := own_shape hown
      cases eA
      have F := Lib.hid (And.intro hown (And.intro hb hbs))
      clear hown hb hbs
      go_upto_region 5 with (fail)
      refine abs_world ?_
      intro w5 hw5
      obtain ⟨T, hT⟩ : ∃ T, RowKit.Hid (T = wr.heap.size) := ⟨_, Lib.hid rfl⟩
      have g5 : w5.heap[T]? = some (.cells #[.string f0, .string f1, .int .i64 f2] 33 (0, 0)) := by rw [hw5, hT.out]; exact heap_alloc_new wr _
      have b5 : Below wr.heap.size wr w5 := by rw [hw5]; exact (Below.refl _ _).alloc (Nat.le_refl _) _
      have O5 : w5.drew.ownsRow BB 5 1 (.slice A5 xs.length c5) xs.length (nums .u8 xs) := pw_own_below F.out.1 b5.drew
      have B5 : Below BB w3 w5.drew := F.out.2.1.trans ((b5.mono F.out.2.2).drew)
      have S5 : BB ≤ w5.drew.heap.size := Nat.le_trans F.out.2.2 b5.size
      rw [← hT.out]
      clear hw5
      refine start_ (n := 8) (S := (fun W => W.heap[T]? = some (.cells #[.string f0, .string f1, .int .i64 f2] 33 (0, 0)))) (ds := []) #[false, false, false, false, false, false, false, false] (by kernel_rfl) rfl rfl g5 (fun hHeld => ?_)
      refine pure_ (i := 0) (N := (some 13)) (v := ?_) (a' := ?_) #[true, false, false, false, false, false, false, false] rfl rfl (by kernel_rfl) (fun _ _ _ h => h) (Or.inl ⟨by rfl, ?_⟩) ?_ ?_
      rotate_left
      · intro w'
        go_simp
        with_reducible rfl
      rotate_left
      · simp only [Act.put, List.setIfInBounds_toArray, List.set_cons_zero, List.set_cons_succ, i64_w, i32_w]
        rfl
      refine pure_ (i := 1) (N := (some 14)) (v := ?_) (a' := ?_) #[true, true, false, false, false, false, false, false] rfl rfl (by kernel_rfl) (fun _ _ _ h => h) (Or.inl ⟨by rfl, ?_⟩) ?_ ?_
      rotate_left
      · intro w'
        go_simp
        with_reducible rfl
      rotate_left
      · simp only [Act.put, List.setIfInBounds_toArray, List.set_cons_zero, List.set_cons_succ, i64_w, i32_w]
        rfl
      refine take_ (i := 2) (N := (some 15)) (v := .string f0) (a' := ?_) #[true, true, true, false, false, false, false, false] rfl rfl (by kernel_rfl) (fun _ _ _ h => h) (Or.inl ⟨by rfl, ?_⟩) hHeld ?_ ?_
      · intro W hW
        have hW' := (row3 hW).1
        go_simp
      rotate_left
      · simp only [Act.put, List.setIfInBounds_toArray, List.set_cons_zero, List.set_cons_succ, i64_w, i32_w]
        rfl
      refine pure_ (i := 4) (N := (some 17)) (v := ?_) (a' := ?_) #[true, true, true, false, true, false, false, false] rfl rfl (by kernel_rfl) (fun _ _ _ h => h) (Or.inl ⟨by rfl, ?_⟩) ?_ ?_
      rotate_left
      · intro w'
        go_simp
        with_reducible rfl
      rotate_left
      · simp only [Act.put, List.setIfInBounds_toArray, List.set_cons_zero, List.set_cons_succ, i64_w, i32_w]
        rfl
      refine take_ (i := 5) (N := (some 18)) (v := .string f1) (a' := ?_) #[true, true, true, false, true, true, false, false] rfl rfl (by kernel_rfl) (fun _ _ _ h => h) (Or.inl ⟨by rfl, ?_⟩) hHeld ?_ ?_
      · intro W hW
        have hW' := (row3 hW).2.1
        go_simp
      rotate_left
      · simp only [Act.put, List.setIfInBounds_toArray, List.set_cons_zero, List.set_cons_succ, i64_w, i32_w]
        rfl
      refine one_ (i := 3) (N := some 16) #[true, true, true, true, true, true, false, false] rfl rfl (by kernel_rfl) (by decide) (fun K hK => ?_)
      refine goes_ Try.func14 (by kernel_rfl) rfl #[.slice A5 xs.length c5, .string f0] (by rfl) rfl rfl (by (try simp only [List.map_toArray, List.map_cons, List.map_nil]); first | done | rfl) ?_
      refine (text_any w3 _ BB A5 c5 xs f0 O5 B5 S5 (by have := HX.out; omega) (by have := HX.out; omega)).mono ?_
      rintro e w6 ⟨v6, rfl, hown6, hb6, hg6⟩
      have g6 := keep_row hg6 hHeld (own_ne O5 hHeld (by decide))
      obtain ⟨xs6, hxs6⟩ : ∃ xs6, RowKit.Hid (xs6 = xs ++ textB f0) := ⟨_, Lib.hid rfl⟩
      rw [← hxs6.out] at hown6
      obtain ⟨A6, c6, rfl, -, -, -⟩ := own_shape hown6
      have S6 := Nat.le_trans S5 hg6.size
      refine ⟨_, rfl, ?_⟩
      refine hK.out _ _ g6 (fun hHeld => ?_)
      clear hK K
      refine norm_ (a' := ?_) ?_ ?_
      rotate_left
      · show Act.put _ (some 16) _ = _
        simp only [Act.put, List.setIfInBounds_toArray, List.set_cons_zero, List.set_cons_succ, i64_w, i32_w]
        rfl
      refine one_ (i := 6) (N := some 19) #[true, true, true, true, true, true, true, false] rfl rfl (by kernel_rfl) (by decide) (fun K hK => ?_)
      refine goes_ Try.func14 (by kernel_rfl) rfl #[.slice A6 xs6.length c6, .string f1] (by rfl) rfl rfl (by (try simp only [List.map_toArray, List.map_cons, List.map_nil]); first | done | rfl) ?_
      have q6 : xs6.length = xs.length + (textB f0).length := by rw [hxs6.out, List.length_append]
      have q7 : (textB f0).length + f1.size ≤ (rowB f0 f1 f2).length := by unfold rowB; simp only [List.length_append]; have : f1.size ≤ (textB f1).length := (by unfold textB; simp only [List.length_append, bytesOf_length]; omega); omega
      refine (text_any w3 _ BB A6 c6 xs6 f1 hown6 hb6 S6 (by have := HX.out; omega) (by have := HX.out; omega)).mono ?_
      rintro e w7 ⟨v7, rfl, hown7, hb7, hg7⟩
      have g7 := keep_row hg7 hHeld (own_ne hown6 hHeld (by decide))
      obtain ⟨xs7, hxs7⟩ : ∃ xs7, RowKit.Hid (xs7 = xs6 ++ textB f1) := ⟨_, Lib.hid rfl⟩
      rw [← hxs7.out] at hown7
      obtain ⟨A7, c7, rfl, -, -, -⟩ := own_shape hown7
      have S7 := Nat.le_trans S6 hg7.size
      refine ⟨_, rfl, ?_⟩
      refine hK.out _ _ g7 (fun hHeld => ?_)
      clear hK K
      refine norm_ (a' := ?_) ?_ ?_
      rotate_left
      · show Act.put _ (some 19) _ = _
        simp only [Act.put, List.setIfInBounds_toArray, List.set_cons_zero, List.set_cons_succ, i64_w, i32_w]
        rfl
      refine pure_ (i := 7) (N := (some 3)) (v := ?_) (a' := ?_) #[true, true, true, true, true, true, true, true] rfl rfl (by kernel_rfl) (fun _ _ _ h => h) (Or.inl ⟨by rfl, ?_⟩) ?_ ?_
      rotate_left
      · intro w'
        go_simp
        with_reducible rfl
      rotate_left
      · simp only [Act.put, List.setIfInBounds_toArray, List.set_cons_zero, List.set_cons_succ, i64_w, i32_w]
        rfl
      refine done_ (by kernel_rfl) ?_
      obtain ⟨u, hu⟩ : ∃ u, IntKind.u64.wrap f2 = u := ⟨_, rfl⟩
      have hur := wrap_range f2
      rw [hu] at hur
      obtain ⟨E2, hE2⟩ : ∃ E, RowKit.Hid (E = lebB u) := ⟨_, Lib.hid rfl⟩
      have L2 := lebB_length u
      have N2 : leb_Encode.f 12 [u] = some E2 := by rw [hE2.out]; exact encode_law _ hur.1 hur.2
      rw [← hE2.out] at L2
      have eQ : xs7 ++ E2 = leafL (rows.take (i + 1)) := by rw [← eN.out, hxs7.out, hxs6.out, hE2.out]; unfold rowB; rw [hu]; simp only [List.append_assoc]
      have lQ : xs7.length + 10 ≤ 140737488355328 := by
        have h1 : xs7.length + E2.length ≤ 35184372088832 := by rw [← List.length_append, eQ, ← eN.out, List.length_append]; exact HX.out.1
        omega
      have eQ := Lib.hid (And.intro eQ (And.intro lQ (And.intro L2 N2)))
      clear lQ L2 N2 hur hE2 eN q6 q7
      have c2 := (row3 hHeld).2.2
      have F7 := Lib.hid (And.intro hown7 (And.intro hb7 S7))
      clear hown7 hb7 hown6 hb6 hg6 hg7 O5 B5 g5 g6 g7 b5 S5 S6 S7
      go_wp2_with (first
        | (go_at_call 15; refine (leb_Encode.calls 12 (some ⟨w7.heap.size, 0, none⟩) 1 [u] E2 _ (lit_C w7 _ 43) (by simp) eQ.out.2.2.2).mono ?_; rintro e w8 ⟨v8, rfl, hR8, hb8⟩; obtain ⟨A8, c8, rfl, hc8, hr8⟩ := reads_R hR8; have bw8 : Below w7.heap.size w7 w8 := ((Below.refl _ _).alloc (Nat.le_refl _) _).trans (hb8.mono (by rw [World.size_alloc]; omega)))
        | (at_builtin; refine print_append_row (w0 := w3) BB rfl (.tmp 20) (.tmp 25) 37 5 .u8 1 rfl Try.underlying37 info5 (by omega) (.slice A7 xs7.length c7) xs7 E2 A8 E2.length c8 rfl rfl (pw_own_below F7.out.1 bw8) hr8 (F7.out.2.1.trans (bw8.mono F7.out.2.2)) (Nat.le_trans F7.out.2.2 bw8.size) (by have := eQ.out.2; omega) ?_; intro v9 w9 hown9 hb9 hg9 hat9))
      refine ⟨⟨i + 1, by omega, by go_num, ?_, hb9⟩, by simp [intOf]; omega⟩
      rw [eQ.out.1] at hown9; exact hown9
    · obtain rfl : i = n := by omega
      have hfull : rows.take i = rows := List.take_of_length_le (by rw [hn.out]; exact Nat.le_refl _)
      rw [hfull] at hown
      rw [← hL.out] at hown
      have hLl : RowKit.Hid (L.length ≤ 35184372088832) := Lib.hid (by rw [hL.out]; exact RR.out.2.1)
      have hLb : ∀ x ∈ L, 0 ≤ x ∧ x ≤ 255 := by
        intro x hx
        rw [hL.out] at hx
        exact RR.out.2.2 x hx
      clear hfull
      obtain ⟨A5, c5, rfl, hc5, hr5, -⟩ := own_shape hown
      obtain ⟨w4, hw4⟩ : ∃ w4, RowKit.Hid (w4 = wr.alloc (.cells #[.slice A5 L.length c5] 37)) := ⟨_, Lib.hid rfl⟩
      have b4 : Below wr.heap.size wr w4 := by rw [hw4.out]; exact (Below.refl _ _).alloc (Nat.le_refl _) _
      have p4 : w4.cell? ⟨wr.heap.size, 0, none⟩ = some (.slice A5 L.length c5) := by rw [hw4.out]; exact cell_of_row _ wr.heap.size 0 _ _ _ (heap_alloc_new wr _)
      have r4 := hr5.below b4
      have B2 := HB2.out
      have hzz := hb.size
      have hz3 := G.out.2.2.1
      have t4 := (b4.block w.heap.size (by omega)).trans ((hb.block w.heap.size (by omega)).trans G.out.1)
      have lt4 : w.heap.size < w4.heap.size := by have := b4.size; omega
      have k4 : Below w.heap.size w w4 := G.out.2.1.trans ((hb.mono (by omega)).trans (b4.mono (by omega)))
      have hlt' : ¬ ((i : Int) < (i : Int)) := by omega
      clear hown hb hr5 hzz hz3 B2
      go_wp2_with (first
        | (go_at_call 12; rw [← hw4.out]; refine (one_any w4 ⟨wr.heap.size, 0, none⟩ 1 A5 c5 L p4 r4 hc5 hLb (by have := hLl.out; omega)).mono ?_; rintro e wd ⟨rfl, hbd⟩)
        | (refine wpList_store_rowTo rfl 23 (.tmp 2) (.tmp 30) rfl rfl w.heap.size (Row32 (shaF L) 32) rfl rfl 23 _ ((hbd.block w.heap.size lt4).trans t4) (by kernel_rfl) (by kernel_rfl) (by kernel_rfl) ?_; refine abs_list ?_; intro we hwe))
      have hg : we.heap[w.heap.size]? = some (.cells (Row32 (shaF L) 32) 23 (0, 0)) := by
        rw [hwe]; exact setRow_heap _ _ _ _ _ _ ((hbd.block w.heap.size lt4).trans t4)
      have hbe : Below w.heap.size w we := by rw [hwe]; exact below_setRow (k4.trans (hbd.mono k4.size)) (Nat.le_refl _) _
      exact bodyPost_ret (results_cell_row (P := Try.prog) rfl _ _ w.heap.size 23 _ (0, 0) _ rfl hg Try.underlying23 rfl (by kernel_rfl)) rfl ⟨rfl, hbe⟩
end Go.Proofs.Ytcjhephlhgpfkaa.Sha

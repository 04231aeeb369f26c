/- What is proved: the contract of the reference's rowBytes; the conditions stand in the theorem. -/
import Derived.Test.YtcjhephlhgpfkaaShaText
import Derived.Test.YtcjhephlhgpfkaaWalkNodes
import Derived.Deep.DeepCutAuto
import Derived.Deep.CutBlock
namespace Go.Proofs.Ytcjhephlhgpfkaa.Sha
open Go.RowKit Go.Proofs.YtcjhephlhgpfkaaW.PrintWords Go.Proofs.YtcjhephlhgpfkaaW.PrintLast Go.Proofs.Ytcjhephlhgpfkaa.PMerkleLeaves
set_option linter.unusedVariables false
set_option linter.unusedSimpArgs false
def rowB (f0 f1 : ByteArray) (f2 : Int) : List Int := textB f0 ++ (textB f1 ++ lebB (IntKind.u64.wrap f2))
theorem wrap_range (n : Int) : 0 ≤ IntKind.u64.wrap n ∧ IntKind.u64.wrap n < 18446744073709551616 := by
  simp [IntKind.wrap, IntKind.signed, IntKind.bits]; omega
theorem keep_row {w w' : World} {o : Option Nat} (hg : w.grownBy w' o) {g : Nat} {ob : Obj} (h : w.heap[g]? = some ob) (hne : some g ≠ o) : w'.heap[g]? = some ob := (hg.block g (lt_of h) hne).trans h
theorem row3 {w : World} {g : Nat} {a b : ByteArray} {c : Int} {t : TypeId} {fr : Nat × Nat} (h : w.heap[g]? = some (.cells #[.string a, .string b, .int .i64 c] t fr)) :
    w.cell? ⟨g, 0, none⟩ = some (.string a) ∧ w.cell? ⟨g, 1, none⟩ = some (.string b) ∧ w.cell? ⟨g, 2, none⟩ = some (.int .i64 c) :=
  ⟨cell_of_row w g 0 _ _ _ h, cell_of_row w g 1 _ _ _ h, cell_of_row w g 2 _ _ _ h⟩
theorem own_R {w : World} {base : Nat} {ok : Nat → Prop} {v : Value} {xs : List Int} (h : Kd.R (Kd.int .u8) 5 w base ok v xs) : w.ownsRow base 5 1 v xs.length (nums .u8 xs) := Kd.own_of_R h
set_option maxRecDepth 100000 in
set_option maxHeartbeats 8000000 in
theorem rowBytes_any (w : World) (f0 f1 : ByteArray) (f2 : Int) (h0 : f0.size ≤ 35184372088832) (h1 : f1.size ≤ 35184372088832) :
    Calls Try.prog 16 #[.agg #[.string f0, .string f1, .int .i64 f2]] w fun e w' => ∃ v', e = .returned v' ∧ w'.ownsRow w.heap.size 5 1 v' (rowB f0 f1 f2).length (nums .u8 (rowB f0 f1 f2)) ∧ Below w.heap.size w w' := by
  obtain ⟨u, hu⟩ : ∃ u, IntKind.u64.wrap f2 = u := ⟨_, rfl⟩
  have hur := wrap_range f2
  rw [hu] at hur
  obtain ⟨E0, hE0⟩ : ∃ E, RowKit.Hid (E = lebB f0.size) := ⟨_, Lib.hid rfl⟩
  obtain ⟨E1, hE1⟩ : ∃ E, RowKit.Hid (E = lebB f1.size) := ⟨_, Lib.hid rfl⟩
  obtain ⟨E2, hE2⟩ : ∃ E, RowKit.Hid (E = lebB u) := ⟨_, Lib.hid rfl⟩
  have L0 := lebB_length f0.size
  have L1 := lebB_length f1.size
  have L2 := lebB_length u
  have N0 : hawserref08_Number.f 10 (f0.size : Int) = some E0 := by rw [hE0.out]; exact number24_law _ (by omega) (by omega)
  have N1 : hawserref08_Number.f 10 (f1.size : Int) = some E1 := by rw [hE1.out]; exact number24_law _ (by omega) (by omega)
  have N2 : hawserref10_number.f 10 u = some E2 := by rw [hE2.out]; exact number25_law _ hur.1 hur.2
  rw [← hE0.out] at L0
  rw [← hE1.out] at L1
  rw [← hE2.out] at L2
  have b0 : (bytesOf f0).length = f0.size := by first | exact bytesOf_length f0 | simp [bytesOf]
  have b1 : (bytesOf f1).length = f1.size := by first | exact bytesOf_length f1 | simp [bytesOf]
  have eT : rowB f0 f1 f2 = (E0 ++ bytesOf f0 ++ E1 ++ bytesOf f1 ++ E2) := by unfold rowB textB; rw [hu, ← hE0.out, ← hE1.out, ← hE2.out]; simp only [List.append_assoc]
  rw [eT]
  have F := Lib.hid (And.intro (And.intro N0 (And.intro N1 N2)) (And.intro (And.intro h0 h1) (And.intro (And.intro L0 (And.intro L1 L2)) (And.intro b0 b1))))
  clear N0 N1 N2 h0 h1 L0 L1 L2 b0 b1 eT hur hE0 hE1 hE2
  go_enter Try.func16, Try.ntmps16
  go_upto_region 1 with (fail)
  refine abs_world ?_
  intro w1 hw1
  have hb1 : Below w.heap.size w w1 := by rw [hw1]; exact (Below.refl _ _).alloc (Nat.le_refl _) _
  have g1 : w1.heap[w.heap.size]? = some (.cells #[.string f0, .string f1, .int .i64 f2] 33 (0, 0)) := by rw [hw1]; exact heap_alloc_new w _
  clear hw1
  have c1 := row3 g1
  obtain ⟨c10, c11, c12⟩ := c1
  go_upto_region 2 with (first
    | (go_at_call 24; refine (hawserref08_Number.calls 10 (f0.size : Int) E0 _ F.out.1.1).mono ?_; rintro e w2 ⟨v2, rfl, hR2, hb2⟩))
  have o2 := own_R hR2
  have g2 := (hb2.block _ (lt_of g1)).trans g1
  obtain ⟨c20, c21, c22⟩ := row3 g2
  have lt2 := lt_of g1
  have G := Lib.hid (And.intro hb1 (And.intro g2 (And.intro o2 (And.intro hb2 lt2))))
  clear hb1 g1 c10 c11 c12 hR2 hb2 o2 g2 lt2
  go_upto_region 3 with (first
    | (at_builtin; refine print_append_str (w0 := w1) w1.heap.size rfl (.tmp 8) (.tmp 10) 37 9 5 rfl Try.underlying37 Try.underlying9 info5 v2 E0 f0 rfl rfl G.out.2.2.1 G.out.2.2.2.1 G.out.2.2.2.1.size (by have := F.out.2.1.1; have := F.out.2.2.1.1; omega) ?_; intro v3 w3 hown3 hb3 hg3))
  have g3 := keep_row hg3 G.out.2.1 (own_ne G.out.2.2.1 G.out.2.1 (by decide))
  obtain ⟨c30, c31, c32⟩ := row3 g3
  have G3 := Lib.hid (And.intro G.out.1 (And.intro g3 (And.intro hown3 (And.intro hb3 G.out.2.2.2.2))))
  clear c20 c21 c22 G hown3 hb3 hg3 g3
  go_upto_region 4 with (first
    | (go_at_call 24; refine (hawserref08_Number.calls 10 (f1.size : Int) E1 _ F.out.1.2.1).mono ?_; rintro e w4 ⟨v4, rfl, hR4, hb4⟩; obtain ⟨A4, c4, rfl, hc4, hr4⟩ := reads_R hR4)
    | (at_builtin; refine print_append_row (w0 := w1) w1.heap.size rfl (.tmp 12) (.tmp 16) 37 5 .u8 1 rfl Try.underlying37 info5 (by omega) v3 (E0 ++ bytesOf f0) E1 A4 E1.length c4 rfl rfl (pw_own_below G3.out.2.2.1 hb4) hr4 (G3.out.2.2.2.1.trans (hb4.mono G3.out.2.2.2.1.size)) (Nat.le_trans G3.out.2.2.2.1.size hb4.size) (by have := F.out.2; rw [List.length_append]; omega) ?_; intro v5 w5 hown5 hb5 hg5 hat5))
  have g4 := (hb4.block _ (lt_of G3.out.2.1)).trans G3.out.2.1
  have g5 := keep_row hg5 g4 (own_ne (pw_own_below G3.out.2.2.1 hb4) g4 (by decide))
  obtain ⟨c50, c51, c52⟩ := row3 g5
  have G5 := Lib.hid (And.intro G3.out.1 (And.intro g5 (And.intro hown5 (And.intro hb5 G3.out.2.2.2.2))))
  clear c30 c31 c32 G3 hown5 hb5 hg5 g4 g5 hR4 hb4 hc4 hr4 hat5
  go_upto_region 5 with (first
    | (at_builtin; refine print_append_str (w0 := w1) w1.heap.size rfl (.tmp 18) (.tmp 20) 37 9 5 rfl Try.underlying37 Try.underlying9 info5 v5 (E0 ++ bytesOf f0 ++ E1) f1 rfl rfl G5.out.2.2.1 G5.out.2.2.2.1 G5.out.2.2.2.1.size (by have := F.out.2; simp only [List.length_append]; omega) ?_; intro v6 w6 hown6 hb6 hg6))
  have g6 := keep_row hg6 G5.out.2.1 (own_ne G5.out.2.2.1 G5.out.2.1 (by decide))
  obtain ⟨c60, c61, c62⟩ := row3 g6
  have G6 := Lib.hid (And.intro G5.out.1 (And.intro g6 (And.intro hown6 (And.intro hb6 G5.out.2.2.2.2))))
  clear c50 c51 c52 G5 hown6 hb6 hg6 g6
  go_wp2_with (first
    | (go_at_call 25; refine (hawserref10_number.calls 10 u E2 _ F.out.1.2.2).mono ?_; rintro e w7 ⟨v7, rfl, hR7, hb7⟩; obtain ⟨A7, c7, rfl, hc7, hr7⟩ := reads_R hR7)
    | (at_builtin; refine print_append_row (w0 := w1) w1.heap.size rfl (.tmp 22) (.tmp 26) 37 5 .u8 1 rfl Try.underlying37 info5 (by omega) v6 (E0 ++ bytesOf f0 ++ E1 ++ bytesOf f1) E2 A7 E2.length c7 rfl rfl (pw_own_below G6.out.2.2.1 hb7) hr7 (G6.out.2.2.2.1.trans (hb7.mono G6.out.2.2.2.1.size)) (Nat.le_trans G6.out.2.2.2.1.size hb7.size) (by have := F.out.2; simp only [List.length_append]; omega) ?_; intro v8 w8 hown8 hb8 hg8 hat8))
  go_ret
  exact ⟨_, rfl, own_mono hown8 G6.out.1.size, G6.out.1.trans (hb8.mono G6.out.1.size)⟩
end Go.Proofs.Ytcjhephlhgpfkaa.Sha

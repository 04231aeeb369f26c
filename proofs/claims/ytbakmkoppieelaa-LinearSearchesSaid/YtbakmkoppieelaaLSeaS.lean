/- What is proved: a step of the search, whether a call is ready, and how it comes into the order and leaves it. -/
import Derived.Test.YtbakmkoppieelaaLSeaP
import Derived.Test.YtbakmkoppieelaaLSeaH
import Derived.Maps.AppendAt
namespace Go.Proofs.Ytbakmkoppieelaa.PLinearChecks
open Go.RowKit Go.Proofs.YtbakmkoppieelaaW.PrintWords Go.Proofs.YtbakmkoppieelaaW.PrintLast Go.Proofs.YtbakmkoppieelaaW.PrintMore
set_option linter.unusedVariables false
set_option linter.unusedSimpArgs false
/-- What a step leaves. -/
def StepTo (w : World) (b n : Nat) (κ : KF) (x : S39) (w' : World) : Prop :=
  Keep (· = b) w w' ∧ ∃ k, n ≤ k ∧ k ≤ n + 1 ∧ MapK w' b k (if (hapF (κ x.f3.toList) x).2 = true then updK κ x.f3.toList (hapF (κ x.f3.toList) x).1 else κ)
set_option maxRecDepth 100000 in
set_option maxHeartbeats 8000000 in
theorem step_any (w : World) (b n : Nat) (κ : KF) (x : S39) (hs : x.f3.size ≤ maxLen) (hM : MapK w b n κ) (hn : n < maxLen) :
    Calls Try.prog 60 #[.map (some b), .agg #[.int .i64 x.f0, .int .i64 x.f1, .bool x.f2, .string x.f3, .int .i64 x.f4.f0, .string x.f4.f1, .string x.f4.f2, .int .i64 x.f4.f3, .int .i64 x.f5, .int .i64 x.f6, .int .i64 x.f7.f0, .int .i64 x.f7.f1, .string x.f8.f0, .string x.f8.f1, .int .i64 x.f8.f2, .bool x.f9]] w fun e w' => e = .returned (.tuple #[.agg #[.bool (κ x.f3.toList).f0, .string (κ x.f3.toList).f1, .int .i64 (κ x.f3.toList).f2, .int .i64 (κ x.f3.toList).f3, .int .i64 (κ x.f3.toList).f4], .bool (hapF (κ x.f3.toList) x).2]) ∧ StepTo w b n κ x w' := by
  obtain ⟨c0, HC⟩ : ∃ c, RowKit.Hid (κ x.f3.toList = c) := ⟨_, Lib.hid rfl⟩
  obtain ⟨⟨d1, d2⟩, HD⟩ : ∃ p, RowKit.Hid (hapF c0 x = p) := ⟨_, Lib.hid rfl⟩
  have KP := Lib.hid (Keep.refl (· = b) w)
  have HB := Lib.hid hM.lt
  have MP := Lib.hid (And.intro hM hn)
  have HS := Lib.hid hs
  clear hM hn hs
  rw [HC.out, HD.out]
  cases d2 with
  | true =>
    go_enter Try.func60, Try.ntmps60
    go_wp2_with (first
      | ((with_reducible refine gate_dst (N := 3) rfl ?_); refine box_event rfl (N := 3) rfl (cs := #[.int .i64 x.f0, .int .i64 x.f1, .bool x.f2, .string x.f3, .int .i64 x.f4.f0, .string x.f4.f1, .string x.f4.f2, .int .i64 x.f4.f3, .int .i64 x.f5, .int .i64 x.f6, .int .i64 x.f7.f0, .int .i64 x.f7.f1, .string x.f8.f0, .string x.f8.f1, .int .i64 x.f8.f2, .bool x.f9]) (t := 39) (by first | (go_simp; done) | (go_simp; rfl)) ?_; intro g3 e3 w3 h3 b3; have L3 := Lib.hid (Nat.le_trans KP.out.size (Nat.le_of_eq e3.symm)); replace KP := Lib.hid (Keep.below KP.out b3); replace MP := Lib.hid (And.intro (MP.out.1.kept (grown_of b3) (by simp)) MP.out.2); have B3 := Lib.hid h3; clear h3 b3 e3)
      | ((with_reducible refine gate_dst (N := 4) rfl ?_); refine box_event rfl (N := 4) rfl (cs := #[.bool false, .string ⟨#[]⟩, .int .i64 0, .int .i64 0, .int .i64 0]) (t := 130) (by first | (go_simp; done) | (go_simp; rfl)) ?_; intro g4 e4 w4 h4 b4; have N3_4 := Lib.hid (Nat.ne_of_lt (Nat.lt_of_lt_of_eq (blk_lt B3.out) e4.symm)); have N4_3 := Lib.hid N3_4.out.symm; have L4 := Lib.hid (Nat.le_trans KP.out.size (Nat.le_of_eq e4.symm)); replace B3 := Lib.hid (blk_below B3.out b4); replace KP := Lib.hid (Keep.below KP.out b4); replace MP := Lib.hid (And.intro (MP.out.1.kept (grown_of b4) (by simp)) MP.out.2); have B4 := Lib.hid h4; clear h4 b4 e4; have k2 : w4.cell? ⟨g3, 3, none⟩ = some (.string x.f3) := (blk_cell B3.out 3).trans rfl)
      | (at_lookup; refine wpList_lookup_cell _ rfl _ _ rfl b n κ rfl MP.out.1 x.f3 rfl HS.out ?_; rw [HC.out]; clear k2)
      | ((with_reducible refine gate_dst (N := 6) rfl ?_); refine box_event rfl (N := 6) rfl (cs := #[.bool false, .string ⟨#[]⟩, .int .i64 0, .int .i64 0, .int .i64 0]) (t := 130) (by first | (go_simp; done) | (go_simp; rfl)) ?_; intro g6 e6 w6 h6 b6; have N3_6 := Lib.hid (Nat.ne_of_lt (Nat.lt_of_lt_of_eq (blk_lt B3.out) e6.symm)); have N6_3 := Lib.hid N3_6.out.symm; have N4_6 := Lib.hid (Nat.ne_of_lt (Nat.lt_of_lt_of_eq (blk_lt B4.out) e6.symm)); have N6_4 := Lib.hid N4_6.out.symm; have L6 := Lib.hid (Nat.le_trans KP.out.size (Nat.le_of_eq e6.symm)); replace B3 := Lib.hid (blk_below B3.out b6); replace B4 := Lib.hid (blk_below B4.out b6); replace KP := Lib.hid (Keep.below KP.out b6); replace MP := Lib.hid (And.intro (MP.out.1.kept (grown_of b6) (by simp)) MP.out.2); have B6 := Lib.hid h6; clear h6 b6 e6)
      | ((with_reducible refine gate_store (t := 130) (p := 6) rfl ?_); refine store_row_event rfl 130 (.tmp 6) (.tmp 12) rfl g6 #[.bool c0.f0, .string c0.f1, .int .i64 c0.f2, .int .i64 c0.f3, .int .i64 c0.f4] rfl rfl 130 _ B6.out (by kernel_rfl) rfl (by simp [Value.oneCell']) ?_; intro v6 h6 q6; replace B3 := Lib.hid (blk_grown B3.out q6 (by intro e_; injection e_ with e_; exact N3_6.out e_)); replace B4 := Lib.hid (blk_grown B4.out q6 (by intro e_; injection e_ with e_; exact N4_6.out e_)); replace KP := Lib.hid (Keep.grown KP.out q6 (fun k_ e_ l_ => by injection e_ with e_; exact absurd l_ (by have := L6.out; omega))); replace MP := Lib.hid (And.intro (MP.out.1.kept q6 (by intro e_; injection e_ with e_; have := L6.out; have := HB.out; omega)) MP.out.2); replace B6 := Lib.hid h6; clear h6 q6)
      | ((with_reducible refine gate_dst (N := 14) rfl ?_); refine wpList_load_row rfl 130 (.tmp 6) rfl g6 rfl 130 #[.bool c0.f0, .string c0.f1, .int .i64 c0.f2, .int .i64 c0.f3, .int .i64 c0.f4] (0, 0) _ B6.out Try.underlying130 rfl (by kernel_rfl) ?_)
      | ((with_reducible refine gate_dst (N := 15) rfl ?_); refine wpList_load_row rfl 39 (.tmp 3) rfl g3 rfl 39 #[.int .i64 x.f0, .int .i64 x.f1, .bool x.f2, .string x.f3, .int .i64 x.f4.f0, .string x.f4.f1, .string x.f4.f2, .int .i64 x.f4.f3, .int .i64 x.f5, .int .i64 x.f6, .int .i64 x.f7.f0, .int .i64 x.f7.f1, .string x.f8.f0, .string x.f8.f1, .int .i64 x.f8.f2, .bool x.f9] (0, 0) _ B3.out Try.underlying39 rfl (by kernel_rfl) ?_)
      | (go_at_call 92; with_reducible refine (hap_any c0 x d1 true HD.out _).mono ?_; rintro e_ W_ ⟨rfl, hb⟩; replace B3 := Lib.hid (blk_below B3.out hb); replace B4 := Lib.hid (blk_below B4.out hb); replace B6 := Lib.hid (blk_below B6.out hb); replace KP := Lib.hid (Keep.below KP.out hb); replace MP := Lib.hid (And.intro (MP.out.1.kept (grown_of hb) (by simp)) MP.out.2); clear hb)
      | ((with_reducible refine gate_dst (N := 7) rfl ?_); refine box_event rfl (N := 7) rfl (cs := #[.bool false, .string ⟨#[]⟩, .int .i64 0, .int .i64 0, .int .i64 0]) (t := 130) (by first | (go_simp; done) | (go_simp; rfl)) ?_; intro g7 e7 w7 h7 b7; have N3_7 := Lib.hid (Nat.ne_of_lt (Nat.lt_of_lt_of_eq (blk_lt B3.out) e7.symm)); have N7_3 := Lib.hid N3_7.out.symm; have N4_7 := Lib.hid (Nat.ne_of_lt (Nat.lt_of_lt_of_eq (blk_lt B4.out) e7.symm)); have N7_4 := Lib.hid N4_7.out.symm; have N6_7 := Lib.hid (Nat.ne_of_lt (Nat.lt_of_lt_of_eq (blk_lt B6.out) e7.symm)); have N7_6 := Lib.hid N6_7.out.symm; have L7 := Lib.hid (Nat.le_trans KP.out.size (Nat.le_of_eq e7.symm)); replace B3 := Lib.hid (blk_below B3.out b7); replace B4 := Lib.hid (blk_below B4.out b7); replace B6 := Lib.hid (blk_below B6.out b7); replace KP := Lib.hid (Keep.below KP.out b7); replace MP := Lib.hid (And.intro (MP.out.1.kept (grown_of b7) (by simp)) MP.out.2); have B7 := Lib.hid h7; clear h7 b7 e7)
      | ((with_reducible refine gate_store (t := 130) (p := 7) rfl ?_); refine store_row_event rfl 130 (.tmp 7) (.tmp 17) rfl g7 #[.bool d1.f0, .string d1.f1, .int .i64 d1.f2, .int .i64 d1.f3, .int .i64 d1.f4] rfl rfl 130 _ B7.out (by kernel_rfl) rfl (by simp [Value.oneCell']) ?_; intro v7 h7 q7; replace B3 := Lib.hid (blk_grown B3.out q7 (by intro e_; injection e_ with e_; exact N3_7.out e_)); replace B4 := Lib.hid (blk_grown B4.out q7 (by intro e_; injection e_ with e_; exact N4_7.out e_)); replace B6 := Lib.hid (blk_grown B6.out q7 (by intro e_; injection e_ with e_; exact N6_7.out e_)); replace KP := Lib.hid (Keep.grown KP.out q7 (fun k_ e_ l_ => by injection e_ with e_; exact absurd l_ (by have := L7.out; omega))); replace MP := Lib.hid (And.intro (MP.out.1.kept q7 (by intro e_; injection e_ with e_; have := L7.out; have := HB.out; omega)) MP.out.2); replace B7 := Lib.hid h7; clear h7 q7; have k3 : v7.cell? ⟨g3, 3, none⟩ = some (.string x.f3) := (blk_cell B3.out 3).trans rfl)
      | ((with_reducible refine gate_dst (N := 23) rfl ?_); refine wpList_load_row rfl 130 (.tmp 7) rfl g7 rfl 130 #[.bool d1.f0, .string d1.f1, .int .i64 d1.f2, .int .i64 d1.f3, .int .i64 d1.f4] (0, 0) _ B7.out Try.underlying130 rfl (by kernel_rfl) ?_)
      | (at_mapUpdate; refine wpList_update_cell _ rfl _ _ _ rfl b n κ rfl MP.out.1 MP.out.2 x.f3 d1 rfl rfl HS.out ?_; intro wm hm qm; clear k3; replace B3 := Lib.hid (blk_grown B3.out qm (by intro e_; injection e_ with e_; exact (fun e2_ => absurd HB.out (by have := L3.out; omega)) e_)); replace B4 := Lib.hid (blk_grown B4.out qm (by intro e_; injection e_ with e_; exact (fun e2_ => absurd HB.out (by have := L4.out; omega)) e_)); replace B6 := Lib.hid (blk_grown B6.out qm (by intro e_; injection e_ with e_; exact (fun e2_ => absurd HB.out (by have := L6.out; omega)) e_)); replace B7 := Lib.hid (blk_grown B7.out qm (by intro e_; injection e_ with e_; exact (fun e2_ => absurd HB.out (by have := L7.out; omega)) e_)); replace KP := Lib.hid (Keep.grown KP.out qm (fun k_ e_ _ => by injection e_ with e_; exact e_.symm)); replace MP := Lib.hid hm; clear hm qm)
      | ((with_reducible refine gate_dst (N := 24) rfl ?_); refine wpList_load_row rfl 130 (.tmp 6) rfl g6 rfl 130 #[.bool c0.f0, .string c0.f1, .int .i64 c0.f2, .int .i64 c0.f3, .int .i64 c0.f4] (0, 0) _ B6.out Try.underlying130 rfl (by kernel_rfl) ?_)
      | ((with_reducible refine gate_store (t := 130) (p := 4) rfl ?_); refine store_row_event rfl 130 (.tmp 4) (.tmp 24) rfl g4 #[.bool c0.f0, .string c0.f1, .int .i64 c0.f2, .int .i64 c0.f3, .int .i64 c0.f4] rfl rfl 130 _ B4.out (by kernel_rfl) rfl (by simp [Value.oneCell']) ?_; intro v4 h4 q4; replace B3 := Lib.hid (blk_grown B3.out q4 (by intro e_; injection e_ with e_; exact N3_4.out e_)); replace B6 := Lib.hid (blk_grown B6.out q4 (by intro e_; injection e_ with e_; exact N6_4.out e_)); replace B7 := Lib.hid (blk_grown B7.out q4 (by intro e_; injection e_ with e_; exact N7_4.out e_)); replace KP := Lib.hid (Keep.grown KP.out q4 (fun k_ e_ l_ => by injection e_ with e_; exact absurd l_ (by have := L4.out; omega))); replace MP := Lib.hid (MP.out.kept q4 (by intro e_; injection e_ with e_; have := L4.out; have := HB.out; omega)); replace B4 := Lib.hid h4; clear h4 q4)
      | (fail))
    refine bodyPost_ret (results_ct rfl _ _ g4 130 #[.bool c0.f0, .string c0.f1, .int .i64 c0.f2, .int .i64 c0.f3, .int .i64 c0.f4] (0, 0) _ rfl B4.out Try.underlying130 rfl (by kernel_rfl)) rfl ⟨rfl, ?_⟩
    unfold StepTo
    refine ⟨KP.out, ?_⟩
    exact ⟨n + 1, by omega, by omega, by rw [HC.out, HD.out, if_pos rfl]; exact MP.out⟩
  | false =>
    go_enter Try.func60, Try.ntmps60
    go_wp2_with (first
      | ((with_reducible refine gate_dst (N := 3) rfl ?_); refine box_event rfl (N := 3) rfl (cs := #[.int .i64 x.f0, .int .i64 x.f1, .bool x.f2, .string x.f3, .int .i64 x.f4.f0, .string x.f4.f1, .string x.f4.f2, .int .i64 x.f4.f3, .int .i64 x.f5, .int .i64 x.f6, .int .i64 x.f7.f0, .int .i64 x.f7.f1, .string x.f8.f0, .string x.f8.f1, .int .i64 x.f8.f2, .bool x.f9]) (t := 39) (by first | (go_simp; done) | (go_simp; rfl)) ?_; intro g3 e3 w3 h3 b3; have L3 := Lib.hid (Nat.le_trans KP.out.size (Nat.le_of_eq e3.symm)); replace KP := Lib.hid (Keep.below KP.out b3); replace MP := Lib.hid (And.intro (MP.out.1.kept (grown_of b3) (by simp)) MP.out.2); have B3 := Lib.hid h3; clear h3 b3 e3)
      | ((with_reducible refine gate_dst (N := 4) rfl ?_); refine box_event rfl (N := 4) rfl (cs := #[.bool false, .string ⟨#[]⟩, .int .i64 0, .int .i64 0, .int .i64 0]) (t := 130) (by first | (go_simp; done) | (go_simp; rfl)) ?_; intro g4 e4 w4 h4 b4; have N3_4 := Lib.hid (Nat.ne_of_lt (Nat.lt_of_lt_of_eq (blk_lt B3.out) e4.symm)); have N4_3 := Lib.hid N3_4.out.symm; have L4 := Lib.hid (Nat.le_trans KP.out.size (Nat.le_of_eq e4.symm)); replace B3 := Lib.hid (blk_below B3.out b4); replace KP := Lib.hid (Keep.below KP.out b4); replace MP := Lib.hid (And.intro (MP.out.1.kept (grown_of b4) (by simp)) MP.out.2); have B4 := Lib.hid h4; clear h4 b4 e4; have k2 : w4.cell? ⟨g3, 3, none⟩ = some (.string x.f3) := (blk_cell B3.out 3).trans rfl)
      | (at_lookup; refine wpList_lookup_cell _ rfl _ _ rfl b n κ rfl MP.out.1 x.f3 rfl HS.out ?_; rw [HC.out]; clear k2)
      | ((with_reducible refine gate_dst (N := 6) rfl ?_); refine box_event rfl (N := 6) rfl (cs := #[.bool false, .string ⟨#[]⟩, .int .i64 0, .int .i64 0, .int .i64 0]) (t := 130) (by first | (go_simp; done) | (go_simp; rfl)) ?_; intro g6 e6 w6 h6 b6; have N3_6 := Lib.hid (Nat.ne_of_lt (Nat.lt_of_lt_of_eq (blk_lt B3.out) e6.symm)); have N6_3 := Lib.hid N3_6.out.symm; have N4_6 := Lib.hid (Nat.ne_of_lt (Nat.lt_of_lt_of_eq (blk_lt B4.out) e6.symm)); have N6_4 := Lib.hid N4_6.out.symm; have L6 := Lib.hid (Nat.le_trans KP.out.size (Nat.le_of_eq e6.symm)); replace B3 := Lib.hid (blk_below B3.out b6); replace B4 := Lib.hid (blk_below B4.out b6); replace KP := Lib.hid (Keep.below KP.out b6); replace MP := Lib.hid (And.intro (MP.out.1.kept (grown_of b6) (by simp)) MP.out.2); have B6 := Lib.hid h6; clear h6 b6 e6)
      | ((with_reducible refine gate_store (t := 130) (p := 6) rfl ?_); refine store_row_event rfl 130 (.tmp 6) (.tmp 12) rfl g6 #[.bool c0.f0, .string c0.f1, .int .i64 c0.f2, .int .i64 c0.f3, .int .i64 c0.f4] rfl rfl 130 _ B6.out (by kernel_rfl) rfl (by simp [Value.oneCell']) ?_; intro v6 h6 q6; replace B3 := Lib.hid (blk_grown B3.out q6 (by intro e_; injection e_ with e_; exact N3_6.out e_)); replace B4 := Lib.hid (blk_grown B4.out q6 (by intro e_; injection e_ with e_; exact N4_6.out e_)); replace KP := Lib.hid (Keep.grown KP.out q6 (fun k_ e_ l_ => by injection e_ with e_; exact absurd l_ (by have := L6.out; omega))); replace MP := Lib.hid (And.intro (MP.out.1.kept q6 (by intro e_; injection e_ with e_; have := L6.out; have := HB.out; omega)) MP.out.2); replace B6 := Lib.hid h6; clear h6 q6)
      | ((with_reducible refine gate_dst (N := 14) rfl ?_); refine wpList_load_row rfl 130 (.tmp 6) rfl g6 rfl 130 #[.bool c0.f0, .string c0.f1, .int .i64 c0.f2, .int .i64 c0.f3, .int .i64 c0.f4] (0, 0) _ B6.out Try.underlying130 rfl (by kernel_rfl) ?_)
      | ((with_reducible refine gate_dst (N := 15) rfl ?_); refine wpList_load_row rfl 39 (.tmp 3) rfl g3 rfl 39 #[.int .i64 x.f0, .int .i64 x.f1, .bool x.f2, .string x.f3, .int .i64 x.f4.f0, .string x.f4.f1, .string x.f4.f2, .int .i64 x.f4.f3, .int .i64 x.f5, .int .i64 x.f6, .int .i64 x.f7.f0, .int .i64 x.f7.f1, .string x.f8.f0, .string x.f8.f1, .int .i64 x.f8.f2, .bool x.f9] (0, 0) _ B3.out Try.underlying39 rfl (by kernel_rfl) ?_)
      | (go_at_call 92; with_reducible refine (hap_any c0 x d1 false HD.out _).mono ?_; rintro e_ W_ ⟨rfl, hb⟩; replace B3 := Lib.hid (blk_below B3.out hb); replace B4 := Lib.hid (blk_below B4.out hb); replace B6 := Lib.hid (blk_below B6.out hb); replace KP := Lib.hid (Keep.below KP.out hb); replace MP := Lib.hid (And.intro (MP.out.1.kept (grown_of hb) (by simp)) MP.out.2); clear hb)
      | ((with_reducible refine gate_dst (N := 7) rfl ?_); refine box_event rfl (N := 7) rfl (cs := #[.bool false, .string ⟨#[]⟩, .int .i64 0, .int .i64 0, .int .i64 0]) (t := 130) (by first | (go_simp; done) | (go_simp; rfl)) ?_; intro g7 e7 w7 h7 b7; have N3_7 := Lib.hid (Nat.ne_of_lt (Nat.lt_of_lt_of_eq (blk_lt B3.out) e7.symm)); have N7_3 := Lib.hid N3_7.out.symm; have N4_7 := Lib.hid (Nat.ne_of_lt (Nat.lt_of_lt_of_eq (blk_lt B4.out) e7.symm)); have N7_4 := Lib.hid N4_7.out.symm; have N6_7 := Lib.hid (Nat.ne_of_lt (Nat.lt_of_lt_of_eq (blk_lt B6.out) e7.symm)); have N7_6 := Lib.hid N6_7.out.symm; have L7 := Lib.hid (Nat.le_trans KP.out.size (Nat.le_of_eq e7.symm)); replace B3 := Lib.hid (blk_below B3.out b7); replace B4 := Lib.hid (blk_below B4.out b7); replace B6 := Lib.hid (blk_below B6.out b7); replace KP := Lib.hid (Keep.below KP.out b7); replace MP := Lib.hid (And.intro (MP.out.1.kept (grown_of b7) (by simp)) MP.out.2); have B7 := Lib.hid h7; clear h7 b7 e7)
      | ((with_reducible refine gate_store (t := 130) (p := 7) rfl ?_); refine store_row_event rfl 130 (.tmp 7) (.tmp 17) rfl g7 #[.bool d1.f0, .string d1.f1, .int .i64 d1.f2, .int .i64 d1.f3, .int .i64 d1.f4] rfl rfl 130 _ B7.out (by kernel_rfl) rfl (by simp [Value.oneCell']) ?_; intro v7 h7 q7; replace B3 := Lib.hid (blk_grown B3.out q7 (by intro e_; injection e_ with e_; exact N3_7.out e_)); replace B4 := Lib.hid (blk_grown B4.out q7 (by intro e_; injection e_ with e_; exact N4_7.out e_)); replace B6 := Lib.hid (blk_grown B6.out q7 (by intro e_; injection e_ with e_; exact N6_7.out e_)); replace KP := Lib.hid (Keep.grown KP.out q7 (fun k_ e_ l_ => by injection e_ with e_; exact absurd l_ (by have := L7.out; omega))); replace MP := Lib.hid (And.intro (MP.out.1.kept q7 (by intro e_; injection e_ with e_; have := L7.out; have := HB.out; omega)) MP.out.2); replace B7 := Lib.hid h7; clear h7 q7; have k3 : v7.cell? ⟨g3, 3, none⟩ = some (.string x.f3) := (blk_cell B3.out 3).trans rfl)
      | ((with_reducible refine gate_dst (N := 24) rfl ?_); refine wpList_load_row rfl 130 (.tmp 6) rfl g6 rfl 130 #[.bool c0.f0, .string c0.f1, .int .i64 c0.f2, .int .i64 c0.f3, .int .i64 c0.f4] (0, 0) _ B6.out Try.underlying130 rfl (by kernel_rfl) ?_)
      | ((with_reducible refine gate_store (t := 130) (p := 4) rfl ?_); refine store_row_event rfl 130 (.tmp 4) (.tmp 24) rfl g4 #[.bool c0.f0, .string c0.f1, .int .i64 c0.f2, .int .i64 c0.f3, .int .i64 c0.f4] rfl rfl 130 _ B4.out (by kernel_rfl) rfl (by simp [Value.oneCell']) ?_; intro v4 h4 q4; replace B3 := Lib.hid (blk_grown B3.out q4 (by intro e_; injection e_ with e_; exact N3_4.out e_)); replace B6 := Lib.hid (blk_grown B6.out q4 (by intro e_; injection e_ with e_; exact N6_4.out e_)); replace B7 := Lib.hid (blk_grown B7.out q4 (by intro e_; injection e_ with e_; exact N7_4.out e_)); replace KP := Lib.hid (Keep.grown KP.out q4 (fun k_ e_ l_ => by injection e_ with e_; exact absurd l_ (by have := L4.out; omega))); replace MP := Lib.hid (And.intro (MP.out.1.kept q4 (by intro e_; injection e_ with e_; have := L4.out; have := HB.out; omega)) MP.out.2); replace B4 := Lib.hid h4; clear h4 q4)
      | (fail))
    refine bodyPost_ret (results_ct rfl _ _ g4 130 #[.bool c0.f0, .string c0.f1, .int .i64 c0.f2, .int .i64 c0.f3, .int .i64 c0.f4] (0, 0) _ rfl B4.out Try.underlying130 rfl (by kernel_rfl)) rfl ⟨rfl, ?_⟩
    unfold StepTo
    refine ⟨KP.out, ?_⟩
    exact ⟨n, by omega, by omega, by rw [HC.out, HD.out, if_neg (by simp)]; exact MP.out.1⟩
def rdy.T4 : Bool × List (List Nat × List Nat) := (true, [([], []), ([], []), ([0, 1], [0, 1]), ([2], [2]), ([3], [3]), ([4], [4]), ([5], [5]), ([5], [5]), ([5], [5]), ([7, 8, 5], [5, 7, 8]), ([9, 5], [5, 9]), ([6, 10, 5, 5], [5, 6, 10]), ([5, 11], [5, 11])])
def rdy.B4 : List Nat := [0, 0, 3, 7, 15, 31, 63, 63, 63, 447, 959, 2047, 4095]
theorem rdy.tab4 : rtab .any (opsOf Try.f59 4) = rdy.T4 := by kernel_rfl
theorem rdy.bits4 : waitsOk rdy.T4.2 rdy.B4 = true := by kernel_rfl
set_option maxHeartbeats 16000000 in
set_option maxRecDepth 100000 in
theorem ready_any (w : World) (A : Option Addr) (c ci bi : Nat) (l : List S39) (o : List Nat) (i : Int) (hr : Kd.C k39 w A l.length l) (hc : l.length ≤ c) (hb : w.heap[bi]? = some (.cells (inV l.length o) 3 (0, 0))) (hci : l.length ≤ ci) (hn : l.length ≤ 1000000000000) (i0 : 0 ≤ i) (i1 : i < (l.length : Int)) :
    Calls Try.prog 59 #[.slice A l.length c, .slice (some ⟨bi, 0, none⟩) l.length ci, .int .i64 i] w fun e w' => e = .returned (.bool (rdyB l o i.toNat)) ∧ Below w.heap.size w w' := by
  have HR := Lib.hid hr
  have BI := Lib.hid hb
  have PI := Lib.hid (And.intro i0 i1)
  have HN := Lib.hid hn
  clear hr hb
  go_enter Try.func59, Try.ntmps59
  go_wp2
  go_loopw [11] (fun v11 wr => ∃ k : Int, v11 = .int .i64 k ∧ (0 ≤ k ∧ k ≤ (l.length : Int)) ∧ RowKit.Hid (Rdy l o i.toNat k) ∧ RowKit.Hid (Below w.heap.size w wr)) (fun v11 _ => ((l.length : Int) - intOf v11).toNat)
  case atStart => exact ⟨0, rfl, ⟨by omega, by omega⟩, Lib.hid (fun x hx => by omega), Lib.hid (Below.refl _ _)⟩
  case round =>
    obtain ⟨k, rfl, ⟨k0, k1⟩, HY, HK⟩ := hrel
    by_cases hlt : k < (l.length : Int)
    · have PK := Lib.hid (show 0 ≤ k ∧ k < (l.length : Int) from ⟨k0, hlt⟩)
      have pK := eq_true PK.out.1
      have qK := eq_true PK.out.2
      have pI := eq_true PI.out.1
      have qI := eq_true PI.out.2
      have c1 : decide (k < (l.length : Int)) = true := decide_eq_true hlt
      obtain ⟨ad, eA, RK⟩ := row39 (Kd.C_below HR.out HK.out) k PK.out.1 PK.out.2
      cases eA
      have RK := Lib.hid RK
      clear k0 k1 hlt i0 i1
      go_upto_region 4 with (first
        | ((with_reducible refine gate_dst (N := 15) rfl ?_); refine wpList_load_p rfl 39 (.tmp 14) rfl (ad.add (k.toNat * 16)) rfl [.int .i64 (rd_T39 l k).f0, .int .i64 (rd_T39 l k).f1, .bool (rd_T39 l k).f2, .string (rd_T39 l k).f3, .int .i64 (rd_T39 l k).f4.f0, .string (rd_T39 l k).f4.f1, .string (rd_T39 l k).f4.f2, .int .i64 (rd_T39 l k).f4.f3, .int .i64 (rd_T39 l k).f5, .int .i64 (rd_T39 l k).f6, .int .i64 (rd_T39 l k).f7.f0, .int .i64 (rd_T39 l k).f7.f1, .string (rd_T39 l k).f8.f0, .string (rd_T39 l k).f8.f1, .int .i64 (rd_T39 l k).f8.f2, .bool (rd_T39 l k).f9] _ RK.out Try.underlying39 rfl (by kernel_rfl) ?_)
        | ((with_reducible refine gate_dst (N := 8) rfl ?_); refine box_event rfl (N := 8) rfl (cs := #[.int .i64 0, .int .i64 0, .bool false, .string ⟨#[]⟩, .int .i64 0, .string ⟨#[]⟩, .string ⟨#[]⟩, .int .i64 0, .int .i64 0, .int .i64 0, .int .i64 0, .int .i64 0, .string ⟨#[]⟩, .string ⟨#[]⟩, .int .i64 0, .bool false]) (t := 39) (by first | (go_simp; done) | (go_simp; rfl)) ?_; intro g8 e8 w8 h8 b8; have L8 := Lib.hid (And.intro (Nat.le_of_eq e8.symm) (blk_lt h8)); have KP := Lib.hid (HK.out.trans (b8.mono HK.out.size)); have B8 := Lib.hid h8; clear h8 b8 e8)
        | ((with_reducible refine gate_store (t := 39) (p := 8) rfl ?_); refine store_row_event rfl 39 (.tmp 8) (.tmp 15) rfl g8 #[.int .i64 (rd_T39 l k).f0, .int .i64 (rd_T39 l k).f1, .bool (rd_T39 l k).f2, .string (rd_T39 l k).f3, .int .i64 (rd_T39 l k).f4.f0, .string (rd_T39 l k).f4.f1, .string (rd_T39 l k).f4.f2, .int .i64 (rd_T39 l k).f4.f3, .int .i64 (rd_T39 l k).f5, .int .i64 (rd_T39 l k).f6, .int .i64 (rd_T39 l k).f7.f0, .int .i64 (rd_T39 l k).f7.f1, .string (rd_T39 l k).f8.f0, .string (rd_T39 l k).f8.f1, .int .i64 (rd_T39 l k).f8.f2, .bool (rd_T39 l k).f9] rfl rfl 39 _ B8.out (by kernel_rfl) rfl (by simp [Value.oneCell']) ?_; intro wr' h8 q8; replace KP := Lib.hid (KP.out.grown q8 KP.out.size (fun k_ e_ => by injection e_ with e_; have := L8.out.1; have := HK.out.size; omega)); replace B8 := Lib.hid h8; clear h8 q8)
        | (fail))
      have HB := Lib.hid (Below.refl wr'.heap.size wr')
      have RI := Lib.hid (fun w1 (hs1 : Below wr'.heap.size wr' w1) => row39' (Kd.C_below (Kd.C_below HR.out KP.out) hs1) i PI.out.1 PI.out.2)
      replace BI := Lib.hid (blk_below BI.out KP.out)
      clear RK
      have wi : wrap64 (k + 1) = k + 1 := by have h1 := PK.out; have h2 := HN.out; unfold wrap64; omega
      have wi2 : IntKind.i64.wrap (k + 1) = k + 1 := (i64_w _).trans wi
      cases ho : o.contains k.toNat with
      | true =>
        have HO := Lib.hid (show (if o.contains k.toNat = true then (1 : Int) else 0) = 1 by rw [if_pos ho])
        have HX := Lib.hid (rdy_next PK.out.1 HY.out (Or.inl ho))
        clear ho
        refine start_ (n := 13) (S := fun w1 => Below wr'.heap.size wr' w1) (ds := []) (ar 13 0) (by kernel_rfl) rfl rfl (below_drew1 HB.out) (fun hHeld => ?_); refine with_tabW rdy.tab4 rdy.bits4 (fun HT_ HW_ => ?_)
        replace HB := Lib.hid (below_drew1 HB.out)
        generalize wr'.drew = wz at HB hHeld ⊢
        refine pY 0 (some 16) (ar 13 1) HT_ (h := ?_)
        refine pY 1 (some 17) (ar 13 2) HT_ (h := ?_)
        refine pY 2 (some 18) (ar 13 3) HT_ (h := ?_)
        refine take_ (i := 3) (N := (some 19)) (v := ?_) (a' := ?_) (ar 13 4) rfl rfl (take_ofW HT_.out HW_.out (by kernel_rfl)) (fun _ _ _ h => h) (Or.inl ⟨by rfl, ?_⟩) hHeld ?_ ?_; rotate_left; (· rintro w1 hs1; have kc : w1.cell? ⟨bi, k.toNat, none⟩ = some (.int .i64 (if o.contains k.toNat = true then 1 else 0)) := (blk_cell (blk_below BI.out hs1) _).trans (inV_at (by have := PK.out; omega)); rw [HO.out] at kc; go_simp; with_reducible rfl); rotate_left; (· simp only [Act.put, List.setIfInBounds_toArray, List.set_cons_zero, List.set_cons_succ, i64_w, i32_w]; rfl)
        refine pY 4 (some 20) (ar 13 5) HT_ (h := ?_)
        refine pY 5 (some 21) (ar 13 6) HT_ (h := ?_)
        refine sY 6 (some 22) (ar 13 7) HT_ (h := ?_)
        refine sY 7 (some 23) (ar 13 8) HT_ (h := ?_)
        refine sY 8 (some 24) (ar 13 9) HT_ (h := ?_)
        refine sY 9 (some 25) (ar 13 10) HT_ (h := ?_)
        refine sY 10 (some 26) (ar 13 11) HT_ (h := ?_)
        refine sY 11 (some 27) (ar 13 12) HT_ (h := ?_)
        refine pY 12 (some 28) (ar 13 13) HT_ (h := ?_)
        refine done_ (done_of HT_.out (by kernel_rfl)) ?_
        go_wp2
        go_roundw
        case rel => exact ⟨k + 1, by first | rfl | go_num, ⟨by have := PK.out; omega, by have := PK.out; omega⟩, HX, Lib.hid (KP.out.trans (HB.out.mono KP.out.size))⟩
        case measure => have := PK.out; simp [intOf]; omega
      | false =>
        have HO := Lib.hid (show (if o.contains k.toNat = true then (1 : Int) else 0) = 0 by rw [if_neg (by rw [ho]; decide)])
        cases hp : precB (rd_T39 l k) (rd_T39 l i) with
        | true =>
          have HX := Lib.hid (rdy_no (i := i.toNat) PK.out.1 PK.out.2 ho hp)
          have HP := Lib.hid (fun W => prec1 (rd_T39 l k) (rd_T39 l i) W)
          rw [hp] at HP
          clear ho hp
          refine start_ (n := 13) (S := fun w1 => Below wr'.heap.size wr' w1) (ds := []) (ar 13 0) (by kernel_rfl) rfl rfl (below_drew1 HB.out) (fun hHeld => ?_); refine with_tabW rdy.tab4 rdy.bits4 (fun HT_ HW_ => ?_)
          replace HB := Lib.hid (below_drew1 HB.out)
          generalize wr'.drew = wz at HB hHeld ⊢
          refine pY 0 (some 16) (ar 13 1) HT_ (h := ?_)
          refine pY 1 (some 17) (ar 13 2) HT_ (h := ?_)
          refine pY 2 (some 18) (ar 13 3) HT_ (h := ?_)
          refine take_ (i := 3) (N := (some 19)) (v := ?_) (a' := ?_) (ar 13 4) rfl rfl (take_ofW HT_.out HW_.out (by kernel_rfl)) (fun _ _ _ h => h) (Or.inl ⟨by rfl, ?_⟩) hHeld ?_ ?_; rotate_left; (· rintro w1 hs1; have kc : w1.cell? ⟨bi, k.toNat, none⟩ = some (.int .i64 (if o.contains k.toNat = true then 1 else 0)) := (blk_cell (blk_below BI.out hs1) _).trans (inV_at (by have := PK.out; omega)); rw [HO.out] at kc; go_simp; with_reducible rfl); rotate_left; (· simp only [Act.put, List.setIfInBounds_toArray, List.set_cons_zero, List.set_cons_succ, i64_w, i32_w]; rfl)
          refine pY 4 (some 20) (ar 13 5) HT_ (h := ?_)
          refine pY 5 (some 21) (ar 13 6) HT_ (h := ?_)
          refine take_ (i := 6) (N := (some 22)) (v := .agg #[.int .i64 (rd_T39 l k).f0, .int .i64 (rd_T39 l k).f1, .bool (rd_T39 l k).f2, .string (rd_T39 l k).f3, .int .i64 (rd_T39 l k).f4.f0, .string (rd_T39 l k).f4.f1, .string (rd_T39 l k).f4.f2, .int .i64 (rd_T39 l k).f4.f3, .int .i64 (rd_T39 l k).f5, .int .i64 (rd_T39 l k).f6, .int .i64 (rd_T39 l k).f7.f0, .int .i64 (rd_T39 l k).f7.f1, .string (rd_T39 l k).f8.f0, .string (rd_T39 l k).f8.f1, .int .i64 (rd_T39 l k).f8.f2, .bool (rd_T39 l k).f9]) (a' := ?_) (ar 13 7) rfl rfl (take_ofW HT_.out HW_.out (by kernel_rfl)) (fun _ _ _ h => h) (Or.inl ⟨by rfl, fun w1 hs1 => exec_load_p 39 (.tmp 8) rfl ⟨g8, 0, none⟩ rfl [.int .i64 (rd_T39 l k).f0, .int .i64 (rd_T39 l k).f1, .bool (rd_T39 l k).f2, .string (rd_T39 l k).f3, .int .i64 (rd_T39 l k).f4.f0, .string (rd_T39 l k).f4.f1, .string (rd_T39 l k).f4.f2, .int .i64 (rd_T39 l k).f4.f3, .int .i64 (rd_T39 l k).f5, .int .i64 (rd_T39 l k).f6, .int .i64 (rd_T39 l k).f7.f0, .int .i64 (rd_T39 l k).f7.f1, .string (rd_T39 l k).f8.f0, .string (rd_T39 l k).f8.f1, .int .i64 (rd_T39 l k).f8.f2, .bool (rd_T39 l k).f9] _ (blk_cells (blk_below B8.out hs1)) Try.underlying39 rfl (by kernel_rfl)⟩) hHeld ?_ ?_; rotate_left; (· simp only [Act.put, List.setIfInBounds_toArray, List.set_cons_zero, List.set_cons_succ, i64_w, i32_w]; rfl)
          refine pY 7 (some 23) (ar 13 8) HT_ (h := ?_)
          refine pY 8 (some 24) (ar 13 9) HT_ (h := ?_)
          refine pY 9 (some 25) (ar 13 10) HT_ (h := ?_)
          refine take_ (i := 10) (N := (some 26)) (v := .agg #[.int .i64 (rd_T39 l i).f0, .int .i64 (rd_T39 l i).f1, .bool (rd_T39 l i).f2, .string (rd_T39 l i).f3, .int .i64 (rd_T39 l i).f4.f0, .string (rd_T39 l i).f4.f1, .string (rd_T39 l i).f4.f2, .int .i64 (rd_T39 l i).f4.f3, .int .i64 (rd_T39 l i).f5, .int .i64 (rd_T39 l i).f6, .int .i64 (rd_T39 l i).f7.f0, .int .i64 (rd_T39 l i).f7.f1, .string (rd_T39 l i).f8.f0, .string (rd_T39 l i).f8.f1, .int .i64 (rd_T39 l i).f8.f2, .bool (rd_T39 l i).f9]) (a' := ?_) (ar 13 11) rfl rfl (take_ofW HT_.out HW_.out (by kernel_rfl)) (fun _ _ _ h => h) (Or.inl ⟨by rfl, fun w1 hs1 => exec_load_p 39 (.tmp 25) rfl (ad.add (i.toNat * 16)) rfl [.int .i64 (rd_T39 l i).f0, .int .i64 (rd_T39 l i).f1, .bool (rd_T39 l i).f2, .string (rd_T39 l i).f3, .int .i64 (rd_T39 l i).f4.f0, .string (rd_T39 l i).f4.f1, .string (rd_T39 l i).f4.f2, .int .i64 (rd_T39 l i).f4.f3, .int .i64 (rd_T39 l i).f5, .int .i64 (rd_T39 l i).f6, .int .i64 (rd_T39 l i).f7.f0, .int .i64 (rd_T39 l i).f7.f1, .string (rd_T39 l i).f8.f0, .string (rd_T39 l i).f8.f1, .int .i64 (rd_T39 l i).f8.f2, .bool (rd_T39 l i).f9] _ (RI.out w1 hs1) Try.underlying39 rfl (by kernel_rfl)⟩) hHeld ?_ ?_; rotate_left; (· simp only [Act.put, List.setIfInBounds_toArray, List.set_cons_zero, List.set_cons_succ, i64_w, i32_w]; rfl)
          refine one_ (i := 11) (N := (some 27)) (ar 13 12) rfl rfl (one_of HT_.out (by kernel_rfl)) (by decide) (fun K hK => ?_); refine goes_ Try.func19 (by kernel_rfl) rfl #[.agg #[.int .i64 (rd_T39 l k).f0, .int .i64 (rd_T39 l k).f1, .bool (rd_T39 l k).f2, .string (rd_T39 l k).f3, .int .i64 (rd_T39 l k).f4.f0, .string (rd_T39 l k).f4.f1, .string (rd_T39 l k).f4.f2, .int .i64 (rd_T39 l k).f4.f3, .int .i64 (rd_T39 l k).f5, .int .i64 (rd_T39 l k).f6, .int .i64 (rd_T39 l k).f7.f0, .int .i64 (rd_T39 l k).f7.f1, .string (rd_T39 l k).f8.f0, .string (rd_T39 l k).f8.f1, .int .i64 (rd_T39 l k).f8.f2, .bool (rd_T39 l k).f9], .agg #[.int .i64 (rd_T39 l i).f0, .int .i64 (rd_T39 l i).f1, .bool (rd_T39 l i).f2, .string (rd_T39 l i).f3, .int .i64 (rd_T39 l i).f4.f0, .string (rd_T39 l i).f4.f1, .string (rd_T39 l i).f4.f2, .int .i64 (rd_T39 l i).f4.f3, .int .i64 (rd_T39 l i).f5, .int .i64 (rd_T39 l i).f6, .int .i64 (rd_T39 l i).f7.f0, .int .i64 (rd_T39 l i).f7.f1, .string (rd_T39 l i).f8.f0, .string (rd_T39 l i).f8.f1, .int .i64 (rd_T39 l i).f8.f2, .bool (rd_T39 l i).f9]] (by rfl) rfl rfl (by (try simp only [List.map_toArray, List.map_cons, List.map_nil]); first | done | rfl) ?_; (with_reducible refine (HP.out _).mono ?_); rintro e w12 ⟨rfl, hb⟩; refine ⟨_, rfl, ?_⟩; replace HB := Lib.hid (below_step HB.out hb); clear hb; refine hK.out _ _ HB.out (fun hHeld => ?_); clear hK K; refine norm_ (a' := ?_) ?_ ?_; rotate_left; (· show Act.put _ (some 27) _ = _; simp only [Act.put, List.setIfInBounds_toArray, List.set_cons_zero, List.set_cons_succ, i64_w, i32_w]; rfl)
          refine pY 12 (some 28) (ar 13 13) HT_ (h := ?_)
          refine done_ (done_of HT_.out (by kernel_rfl)) ?_
          go_wp2
          go_ret
          exact ⟨by rw [HX.out]; rfl, KP.out.trans (HB.out.mono KP.out.size)⟩
        | false =>
          have HX := Lib.hid (rdy_next PK.out.1 HY.out (Or.inr hp))
          have HP := Lib.hid (fun W => prec1 (rd_T39 l k) (rd_T39 l i) W)
          rw [hp] at HP
          clear ho hp
          refine start_ (n := 13) (S := fun w1 => Below wr'.heap.size wr' w1) (ds := []) (ar 13 0) (by kernel_rfl) rfl rfl (below_drew1 HB.out) (fun hHeld => ?_); refine with_tabW rdy.tab4 rdy.bits4 (fun HT_ HW_ => ?_)
          replace HB := Lib.hid (below_drew1 HB.out)
          generalize wr'.drew = wz at HB hHeld ⊢
          refine pY 0 (some 16) (ar 13 1) HT_ (h := ?_)
          refine pY 1 (some 17) (ar 13 2) HT_ (h := ?_)
          refine pY 2 (some 18) (ar 13 3) HT_ (h := ?_)
          refine take_ (i := 3) (N := (some 19)) (v := ?_) (a' := ?_) (ar 13 4) rfl rfl (take_ofW HT_.out HW_.out (by kernel_rfl)) (fun _ _ _ h => h) (Or.inl ⟨by rfl, ?_⟩) hHeld ?_ ?_; rotate_left; (· rintro w1 hs1; have kc : w1.cell? ⟨bi, k.toNat, none⟩ = some (.int .i64 (if o.contains k.toNat = true then 1 else 0)) := (blk_cell (blk_below BI.out hs1) _).trans (inV_at (by have := PK.out; omega)); rw [HO.out] at kc; go_simp; with_reducible rfl); rotate_left; (· simp only [Act.put, List.setIfInBounds_toArray, List.set_cons_zero, List.set_cons_succ, i64_w, i32_w]; rfl)
          refine pY 4 (some 20) (ar 13 5) HT_ (h := ?_)
          refine pY 5 (some 21) (ar 13 6) HT_ (h := ?_)
          refine take_ (i := 6) (N := (some 22)) (v := .agg #[.int .i64 (rd_T39 l k).f0, .int .i64 (rd_T39 l k).f1, .bool (rd_T39 l k).f2, .string (rd_T39 l k).f3, .int .i64 (rd_T39 l k).f4.f0, .string (rd_T39 l k).f4.f1, .string (rd_T39 l k).f4.f2, .int .i64 (rd_T39 l k).f4.f3, .int .i64 (rd_T39 l k).f5, .int .i64 (rd_T39 l k).f6, .int .i64 (rd_T39 l k).f7.f0, .int .i64 (rd_T39 l k).f7.f1, .string (rd_T39 l k).f8.f0, .string (rd_T39 l k).f8.f1, .int .i64 (rd_T39 l k).f8.f2, .bool (rd_T39 l k).f9]) (a' := ?_) (ar 13 7) rfl rfl (take_ofW HT_.out HW_.out (by kernel_rfl)) (fun _ _ _ h => h) (Or.inl ⟨by rfl, fun w1 hs1 => exec_load_p 39 (.tmp 8) rfl ⟨g8, 0, none⟩ rfl [.int .i64 (rd_T39 l k).f0, .int .i64 (rd_T39 l k).f1, .bool (rd_T39 l k).f2, .string (rd_T39 l k).f3, .int .i64 (rd_T39 l k).f4.f0, .string (rd_T39 l k).f4.f1, .string (rd_T39 l k).f4.f2, .int .i64 (rd_T39 l k).f4.f3, .int .i64 (rd_T39 l k).f5, .int .i64 (rd_T39 l k).f6, .int .i64 (rd_T39 l k).f7.f0, .int .i64 (rd_T39 l k).f7.f1, .string (rd_T39 l k).f8.f0, .string (rd_T39 l k).f8.f1, .int .i64 (rd_T39 l k).f8.f2, .bool (rd_T39 l k).f9] _ (blk_cells (blk_below B8.out hs1)) Try.underlying39 rfl (by kernel_rfl)⟩) hHeld ?_ ?_; rotate_left; (· simp only [Act.put, List.setIfInBounds_toArray, List.set_cons_zero, List.set_cons_succ, i64_w, i32_w]; rfl)
          refine pY 7 (some 23) (ar 13 8) HT_ (h := ?_)
          refine pY 8 (some 24) (ar 13 9) HT_ (h := ?_)
          refine pY 9 (some 25) (ar 13 10) HT_ (h := ?_)
          refine take_ (i := 10) (N := (some 26)) (v := .agg #[.int .i64 (rd_T39 l i).f0, .int .i64 (rd_T39 l i).f1, .bool (rd_T39 l i).f2, .string (rd_T39 l i).f3, .int .i64 (rd_T39 l i).f4.f0, .string (rd_T39 l i).f4.f1, .string (rd_T39 l i).f4.f2, .int .i64 (rd_T39 l i).f4.f3, .int .i64 (rd_T39 l i).f5, .int .i64 (rd_T39 l i).f6, .int .i64 (rd_T39 l i).f7.f0, .int .i64 (rd_T39 l i).f7.f1, .string (rd_T39 l i).f8.f0, .string (rd_T39 l i).f8.f1, .int .i64 (rd_T39 l i).f8.f2, .bool (rd_T39 l i).f9]) (a' := ?_) (ar 13 11) rfl rfl (take_ofW HT_.out HW_.out (by kernel_rfl)) (fun _ _ _ h => h) (Or.inl ⟨by rfl, fun w1 hs1 => exec_load_p 39 (.tmp 25) rfl (ad.add (i.toNat * 16)) rfl [.int .i64 (rd_T39 l i).f0, .int .i64 (rd_T39 l i).f1, .bool (rd_T39 l i).f2, .string (rd_T39 l i).f3, .int .i64 (rd_T39 l i).f4.f0, .string (rd_T39 l i).f4.f1, .string (rd_T39 l i).f4.f2, .int .i64 (rd_T39 l i).f4.f3, .int .i64 (rd_T39 l i).f5, .int .i64 (rd_T39 l i).f6, .int .i64 (rd_T39 l i).f7.f0, .int .i64 (rd_T39 l i).f7.f1, .string (rd_T39 l i).f8.f0, .string (rd_T39 l i).f8.f1, .int .i64 (rd_T39 l i).f8.f2, .bool (rd_T39 l i).f9] _ (RI.out w1 hs1) Try.underlying39 rfl (by kernel_rfl)⟩) hHeld ?_ ?_; rotate_left; (· simp only [Act.put, List.setIfInBounds_toArray, List.set_cons_zero, List.set_cons_succ, i64_w, i32_w]; rfl)
          refine one_ (i := 11) (N := (some 27)) (ar 13 12) rfl rfl (one_of HT_.out (by kernel_rfl)) (by decide) (fun K hK => ?_); refine goes_ Try.func19 (by kernel_rfl) rfl #[.agg #[.int .i64 (rd_T39 l k).f0, .int .i64 (rd_T39 l k).f1, .bool (rd_T39 l k).f2, .string (rd_T39 l k).f3, .int .i64 (rd_T39 l k).f4.f0, .string (rd_T39 l k).f4.f1, .string (rd_T39 l k).f4.f2, .int .i64 (rd_T39 l k).f4.f3, .int .i64 (rd_T39 l k).f5, .int .i64 (rd_T39 l k).f6, .int .i64 (rd_T39 l k).f7.f0, .int .i64 (rd_T39 l k).f7.f1, .string (rd_T39 l k).f8.f0, .string (rd_T39 l k).f8.f1, .int .i64 (rd_T39 l k).f8.f2, .bool (rd_T39 l k).f9], .agg #[.int .i64 (rd_T39 l i).f0, .int .i64 (rd_T39 l i).f1, .bool (rd_T39 l i).f2, .string (rd_T39 l i).f3, .int .i64 (rd_T39 l i).f4.f0, .string (rd_T39 l i).f4.f1, .string (rd_T39 l i).f4.f2, .int .i64 (rd_T39 l i).f4.f3, .int .i64 (rd_T39 l i).f5, .int .i64 (rd_T39 l i).f6, .int .i64 (rd_T39 l i).f7.f0, .int .i64 (rd_T39 l i).f7.f1, .string (rd_T39 l i).f8.f0, .string (rd_T39 l i).f8.f1, .int .i64 (rd_T39 l i).f8.f2, .bool (rd_T39 l i).f9]] (by rfl) rfl rfl (by (try simp only [List.map_toArray, List.map_cons, List.map_nil]); first | done | rfl) ?_; (with_reducible refine (HP.out _).mono ?_); rintro e w12 ⟨rfl, hb⟩; refine ⟨_, rfl, ?_⟩; replace HB := Lib.hid (below_step HB.out hb); clear hb; refine hK.out _ _ HB.out (fun hHeld => ?_); clear hK K; refine norm_ (a' := ?_) ?_ ?_; rotate_left; (· show Act.put _ (some 27) _ = _; simp only [Act.put, List.setIfInBounds_toArray, List.set_cons_zero, List.set_cons_succ, i64_w, i32_w]; rfl)
          refine pY 12 (some 28) (ar 13 13) HT_ (h := ?_)
          refine done_ (done_of HT_.out (by kernel_rfl)) ?_
          go_wp2
          go_roundw
          case rel => exact ⟨k + 1, by first | rfl | go_num, ⟨by have := PK.out; omega, by have := PK.out; omega⟩, HX, Lib.hid (KP.out.trans (HB.out.mono KP.out.size))⟩
          case measure => have := PK.out; simp [intOf]; omega
    · have hnl : decide (k < (l.length : Int)) = false := decide_eq_false hlt
      have ek : k = (l.length : Int) := by omega
      have HZ := Lib.hid (rdy_yes (ek ▸ HY.out))
      clear ek k0 k1 hlt i0 i1
      go_wp2
      go_ret
      exact ⟨by rw [HZ.out]; rfl, HK.out⟩
def put.T5 : Bool × List (List Nat × List Nat) := (true, [([], []), ([], []), ([1], [1]), ([2], [2]), ([3], [3]), ([], []), ([5], [5]), ([6], [6]), ([7], [7]), ([8], [8]), ([9], [9]), ([4, 10], [4, 10]), ([0, 0, 1, 2, 3, 4, 5, 6, 7, 8, 9, 10, 11], [0]), ([12, 0, 1, 2, 3, 4, 5, 6, 7, 8, 9, 10, 11], [12]), ([13, 11, 0, 1, 2, 3, 4, 5, 6, 7, 8, 9, 10, 11], [11, 13])])
def put.B5 : List Nat := [0, 0, 2, 6, 14, 0, 32, 96, 224, 480, 992, 2046, 4095, 8191, 16383]
theorem put.tab5 : rtab .any (opsOf Try.f123 5) = put.T5 := by kernel_rfl
theorem put.bits5 : waitsOk put.T5.2 put.B5 = true := by kernel_rfl
/-- What put leaves. -/
def PutTo (w0 : World) (A : Option Addr) (c : Nat) (l : List S39) (p bi bm : Nat) (w : World) (o : List Nat) (n : Nat) (m : KF) (v : Value) (w' : World) : Prop :=
  ∃ v', St w0 A c l p bi bm w' o n m v' ∧ Keep (Xs p bi bm v) w w' ∧ NewB w v v'
theorem newb_of {w W : World} {B gp gi bm : Nat} {v v' : Value} {n : Nat} {xs : List Value} {cp ci : Obj} (ho : W.ownsRow B 3 1 v n xs) (hp : W.heap[gp]? = some cp) (hi : W.heap[gi]? = some ci) (hm : bm < W.heap.size) (nv : ∀ k, v.ownBlock = some k → k ≠ gp ∧ k ≠ gi ∧ k ≠ bm) (hs : w.heap.size ≤ W.heap.size) {ob : Obj} (h : v'.ownBlock = v.ownBlock ∨ v'.ownBlock = some (W.alloc ob).heap.size) :
    NewB w v v' ∧ ∀ k, v'.ownBlock = some k → k ≠ gp ∧ k ≠ gi ∧ k ≠ bm := by
  have l1 := blk_lt hp
  have l2 := blk_lt hi
  rcases h with h | h
  · exact ⟨fun k hk => Or.inl (h ▸ hk), fun k hk => nv k (h ▸ hk)⟩
  · rw [World.size_alloc] at h
    refine ⟨fun k hk => Or.inr ?_, fun k hk => ?_⟩
    · rw [h] at hk; injection hk with hk; omega
    · rw [h] at hk; injection hk with hk; omega
set_option maxRecDepth 100000 in
set_option maxHeartbeats 8000000 in
theorem put_yes (w0 w : World) (A : Option Addr) (c : Nat) (l : List S39) (gp gi bm : Nat) (o : List Nat) (n : Nat) (m : KF) (v : Value) (i : Int) (hr : Kd.C k39 w0 A l.length l) (hc : l.length ≤ c) (hn : l.length ≤ 1000000) (ho : o.length ≤ 1000000) (i0 : 0 ≤ i) (i1 : i < (l.length : Int)) (hi : o.contains i.toNat = false) (hs : St w0 A c l gp gi bm w o n m v) :
    Calls Try.prog 123 #[.pointer (some ⟨gp, 0, none⟩), .int .i64 i, .int .i64 1] w fun e w' => e = .returned (.tuple #[]) ∧ PutTo w0 A c l gp gi bm w (o ++ [i.toNat]) n m v w' := by
  obtain ⟨ad, eA, -⟩ := row39 hr i i0 i1
  subst eA
  have HS := Lib.hid hs
  have KP := Lib.hid (Keep.refl (Xs gp gi bm v) w)
  have MP := Lib.hid hs.hm
  have HO := Lib.hid hs.ho
  have HB := Lib.hid hs.hb
  have Bp := Lib.hid hs.hp
  have Bi := Lib.hid hs.hi
  have HR := Lib.hid hr
  have HN := Lib.hid (And.intro hn ho)
  have HC := Lib.hid hi
  have PI := Lib.hid (show 0 ≤ i ∧ i < (l.length : Int) ∧ i.toNat < l.length by omega)
  have pI := eq_true i0
  have qI := eq_true i1
  obtain ⟨d3, i31, i32, i33, i34⟩ := info_parts info3
  have I3 := Lib.hid (And.intro i31 (And.intro i32 (And.intro i33 i34)))
  have IV := Lib.hid ((inV_at PI.out.2.2).trans (by rw [hi]; rfl : _ = some (.int .i64 0)))
  have HA := Lib.hid (fun W => ans_any (rd_T39 l i) W)
  have LL := Lib.hid (left_le l o)
  clear hr hs i0 i1 hi i31 i32 i33 i34
  cases ha : ansB (rd_T39 l i) with
  | true =>
    rw [ha] at HA
    have wl1 : IntKind.i64.wrap ((leftN l o : Int) - 1) = ((leftN l (o ++ [i.toNat]) : Nat) : Int) := by rw [i64_w]; have h1 := left_ans PI.out.2.2 HC.out ha; have h2 := LL.out; have h3 := HN.out; unfold wrap64; omega
    have wl2 : wrap64 ((leftN l o : Int) - 1) = ((leftN l (o ++ [i.toNat]) : Nat) : Int) := by have h1 := left_ans PI.out.2.2 HC.out ha; have h2 := LL.out; have h3 := HN.out; unfold wrap64; omega
    clear ha
    go_enter Try.func123, Try.ntmps123
    go_wp2_with (first
      | ((with_reducible refine gate_dst (N := 9) rfl ?_); refine wpList_load_cell rfl 54 (.tmp 8) rfl gp 1 rfl _ _ Bp.out (.slice (some ⟨gi, 0, none⟩) l.length l.length) rfl _ Try.underlying54 rfl ?_)
      | ((with_reducible refine gate_dst (N := 12) rfl ?_); refine wpList_load_cell rfl 3 (.tmp 11) rfl gi i.toNat rfl _ _ Bi.out (.int .i64 0) IV.out _ Try.underlying3 rfl ?_)
      | ((with_reducible refine gate_store (t := 3) (p := 15) rfl ?_); refine store_cell_event rfl 3 (.tmp 15) (.tmp 14) rfl gi i.toNat (.int .i64 1) rfl rfl 3 _ Bi.out (by rw [inV_size]; exact PI.out.2.2) (by kernel_rfl) rfl rfl ?_; intro v15 h_ q_; replace Bp := Lib.hid (blk_grown Bp.out q_ (by intro e_; injection e_ with e_; exact HS.out.npi e_)); replace KP := Lib.hid (Keep.grown KP.out q_ (fun k_ e_ _ => by injection e_ with e_; exact Or.inr (Or.inl e_.symm))); replace MP := Lib.hid (MP.out.kept q_ (by intro e_; injection e_ with e_; exact HS.out.nim e_.symm)); replace HO := Lib.hid (HO.out.kept q_ (Or.inr (fun e_ => (HS.out.nv _ e_).2.1 rfl))); replace HB := Lib.hid (below_of_grown HB.out q_ HS.out.bbi HB.out.size); replace Bi := Lib.hid h_; rw [inV_put PI.out.2.2] at Bi; clear h_ q_)
      | ((with_reducible refine gate_dst (N := 19) rfl ?_); refine wpList_load_cell rfl 22 (.tmp 18) rfl gp 0 rfl _ _ Bp.out (.slice (some ad) l.length c) rfl _ Try.underlying22 rfl ?_)
      | ((with_reducible refine gate_dst (N := 22) rfl ?_); refine wpList_load_p rfl 39 (.tmp 21) rfl (ad.add (i.toNat * 16)) rfl [.int .i64 (rd_T39 l i).f0, .int .i64 (rd_T39 l i).f1, .bool (rd_T39 l i).f2, .string (rd_T39 l i).f3, .int .i64 (rd_T39 l i).f4.f0, .string (rd_T39 l i).f4.f1, .string (rd_T39 l i).f4.f2, .int .i64 (rd_T39 l i).f4.f3, .int .i64 (rd_T39 l i).f5, .int .i64 (rd_T39 l i).f6, .int .i64 (rd_T39 l i).f7.f0, .int .i64 (rd_T39 l i).f7.f1, .string (rd_T39 l i).f8.f0, .string (rd_T39 l i).f8.f1, .int .i64 (rd_T39 l i).f8.f2, .bool (rd_T39 l i).f9] _ (row39' (Kd.C_below HR.out HB.out) i PI.out.1 PI.out.2.1) Try.underlying39 rfl (by kernel_rfl) ?_)
      | (go_at_call 42; with_reducible refine (HA.out _).mono ?_; rintro e_ W_ ⟨rfl, hb⟩; replace Bp := Lib.hid (blk_below Bp.out hb); replace Bi := Lib.hid (blk_below Bi.out hb); replace KP := Lib.hid (Keep.below KP.out hb); replace MP := Lib.hid (MP.out.kept (grown_of hb) (by simp)); replace HO := Lib.hid (HO.out.kept (grown_of hb) (by cases Value.ownBlock v <;> simp)); replace HB := Lib.hid (Below.trans HB.out (Below.mono hb HB.out.size)); clear hb)
      | ((with_reducible refine gate_dst (N := 27) rfl ?_); refine wpList_load_cell rfl 3 (.tmp 26) rfl gp 4 rfl _ _ Bp.out (.int .i64 (leftN l o : Int)) rfl _ Try.underlying3 rfl ?_)
      | ((with_reducible refine gate_store (t := 3) (p := 31) rfl ?_); refine store_cell_event rfl 3 (.tmp 31) (.tmp 29) rfl gp 4 (.int .i64 (leftN l (o ++ [i.toNat]) : Int)) rfl rfl 174 _ Bp.out (by show 4 < 5; decide) (by kernel_rfl) rfl rfl ?_; intro v31 h_ q_; replace Bi := Lib.hid (blk_grown Bi.out q_ (by intro e_; injection e_ with e_; exact HS.out.npi.symm e_)); replace KP := Lib.hid (Keep.grown KP.out q_ (fun k_ e_ _ => by injection e_ with e_; exact Or.inl e_.symm)); replace MP := Lib.hid (MP.out.kept q_ (by intro e_; injection e_ with e_; exact HS.out.npm e_.symm)); replace HO := Lib.hid (HO.out.kept q_ (Or.inr (fun e_ => (HS.out.nv _ e_).1 rfl))); replace HB := Lib.hid (below_of_grown HB.out q_ HS.out.bp HB.out.size); replace Bp := Lib.hid h_; replace Bp : RowKit.Hid (v31.heap[gp]? = some (Obj.cells (srV (some ad) l.length c gi bm v (leftN l (o ++ [i.toNat]))) 174 (0, 0))) := Bp; clear h_ q_)
      | ((with_reducible refine gate_dst (N := 38) rfl ?_); refine wpList_load_cell rfl 54 (.tmp 37) rfl gp 3 rfl _ _ Bp.out v rfl _ Try.underlying54 rfl ?_)
      | (at_builtin; refine wpList_append_own_at _ rfl _ _ 54 rfl w0.heap.size 3 d3 (.int .i64 0) 1 8 Try.underlying54 I3.out.1 I3.out.2.1 I3.out.2.2.1 I3.out.2.2.2 rfl (by decide) v o.length (ordV o) rfl (HO.out.alloc _) ⟨_, 0, none⟩ 1 1 [.int .i64 i] rfl rfl (cell_one_new _ _ _) (by intro u_ hu_; rw [List.mem_singleton] at hu_; subst hu_; rfl) (by have := HN.out; unfold maxLen; omega) (by have := HN.out; omega) (by have := HB.out.size; simp; omega) ?_; intro v' wa ho_ hg_ _hz_ hn_; have KA := Lib.hid (Keep.grown (Keep.alloc KP.out _) hg_ (fun k_ e_ _ => Or.inr (Or.inr (Or.inr e_)))); have HBa := Lib.hid (Below.grown (HB.out.alloc HB.out.size _) hg_ (by have := HB.out.size; simp; omega) (fun k_ e_ => (HO.out.lt k_ e_).1)); have Bpa := Lib.hid (blk_grown (blk_alloc Bp.out _) hg_ (fun e_ => (HS.out.nv _ e_.symm).1 rfl)); have Bia := Lib.hid (blk_grown (blk_alloc Bi.out _) hg_ (fun e_ => (HS.out.nv _ e_.symm).2.1 rfl)); have MPa := Lib.hid ((MP.out.kept (World.grownBy_alloc _ _ none) (by simp)).kept hg_ (fun e_ => (HS.out.nv _ e_.symm).2.2 rfl)); have HNB := Lib.hid (newb_of HO.out Bp.out Bi.out MP.out.lt HS.out.nv KP.out.size hn_); clear KP HB Bp Bi MP HO; have KP := KA; have HB := HBa; have Bp := Bpa; have Bi := Bia; have MP := MPa; have HO := Lib.hid ho_; clear KA HBa Bpa Bia MPa ho_ hg_ hn_ _hz_)
      | ((with_reducible refine gate_store (t := 54) (p := 43) rfl ?_); refine store_cell_event rfl 54 (.tmp 43) (.tmp 41) rfl gp 3 v' rfl rfl 174 _ Bp.out (by show 3 < 5; decide) (by kernel_rfl) (owns_one HO.out).1 (owns_one HO.out).2 ?_; intro v43 h_ q_; replace Bi := Lib.hid (blk_grown Bi.out q_ (by intro e_; injection e_ with e_; exact HS.out.npi.symm e_)); replace KP := Lib.hid (Keep.grown KP.out q_ (fun k_ e_ _ => by injection e_ with e_; exact Or.inl e_.symm)); replace MP := Lib.hid (MP.out.kept q_ (by intro e_; injection e_ with e_; exact HS.out.npm e_.symm)); replace HO := Lib.hid (HO.out.kept q_ (Or.inr (fun e_ => (HNB.out.2 _ e_).1 rfl))); replace HB := Lib.hid (below_of_grown HB.out q_ HS.out.bp HB.out.size); replace Bp := Lib.hid h_; replace Bp : RowKit.Hid (v43.heap[gp]? = some (Obj.cells (srV (some ad) l.length c gi bm v' (leftN l (o ++ [i.toNat]))) 174 (0, 0))) := Bp; clear h_ q_)
      | (fail))
    refine bodyPost_end (results_none rfl _ _ _) rfl ⟨rfl, ?_⟩
    exact ⟨v', ⟨Bp.out, Bi.out, MP.out, HB.out, by rw [ordV_snoc, List.length_append, show ((i.toNat : Nat) : Int) = i by have := PI.out; omega]; exact HO.out, HS.out.npi, HS.out.npm, HS.out.nim, HS.out.bp, HS.out.bbi, HS.out.bbm, HNB.out.2⟩, KP.out, HNB.out.1⟩
  | false =>
    rw [ha] at HA
    have hl := left_not (l := l) (o := o) ha
    clear ha
    have HL := Lib.hid hl
    clear hl
    go_enter Try.func123, Try.ntmps123
    go_wp2_with (first
      | ((with_reducible refine gate_dst (N := 9) rfl ?_); refine wpList_load_cell rfl 54 (.tmp 8) rfl gp 1 rfl _ _ Bp.out (.slice (some ⟨gi, 0, none⟩) l.length l.length) rfl _ Try.underlying54 rfl ?_)
      | ((with_reducible refine gate_dst (N := 12) rfl ?_); refine wpList_load_cell rfl 3 (.tmp 11) rfl gi i.toNat rfl _ _ Bi.out (.int .i64 0) IV.out _ Try.underlying3 rfl ?_)
      | ((with_reducible refine gate_store (t := 3) (p := 15) rfl ?_); refine store_cell_event rfl 3 (.tmp 15) (.tmp 14) rfl gi i.toNat (.int .i64 1) rfl rfl 3 _ Bi.out (by rw [inV_size]; exact PI.out.2.2) (by kernel_rfl) rfl rfl ?_; intro v15 h_ q_; replace Bp := Lib.hid (blk_grown Bp.out q_ (by intro e_; injection e_ with e_; exact HS.out.npi e_)); replace KP := Lib.hid (Keep.grown KP.out q_ (fun k_ e_ _ => by injection e_ with e_; exact Or.inr (Or.inl e_.symm))); replace MP := Lib.hid (MP.out.kept q_ (by intro e_; injection e_ with e_; exact HS.out.nim e_.symm)); replace HO := Lib.hid (HO.out.kept q_ (Or.inr (fun e_ => (HS.out.nv _ e_).2.1 rfl))); replace HB := Lib.hid (below_of_grown HB.out q_ HS.out.bbi HB.out.size); replace Bi := Lib.hid h_; rw [inV_put PI.out.2.2] at Bi; clear h_ q_)
      | ((with_reducible refine gate_dst (N := 19) rfl ?_); refine wpList_load_cell rfl 22 (.tmp 18) rfl gp 0 rfl _ _ Bp.out (.slice (some ad) l.length c) rfl _ Try.underlying22 rfl ?_)
      | ((with_reducible refine gate_dst (N := 22) rfl ?_); refine wpList_load_p rfl 39 (.tmp 21) rfl (ad.add (i.toNat * 16)) rfl [.int .i64 (rd_T39 l i).f0, .int .i64 (rd_T39 l i).f1, .bool (rd_T39 l i).f2, .string (rd_T39 l i).f3, .int .i64 (rd_T39 l i).f4.f0, .string (rd_T39 l i).f4.f1, .string (rd_T39 l i).f4.f2, .int .i64 (rd_T39 l i).f4.f3, .int .i64 (rd_T39 l i).f5, .int .i64 (rd_T39 l i).f6, .int .i64 (rd_T39 l i).f7.f0, .int .i64 (rd_T39 l i).f7.f1, .string (rd_T39 l i).f8.f0, .string (rd_T39 l i).f8.f1, .int .i64 (rd_T39 l i).f8.f2, .bool (rd_T39 l i).f9] _ (row39' (Kd.C_below HR.out HB.out) i PI.out.1 PI.out.2.1) Try.underlying39 rfl (by kernel_rfl) ?_)
      | (go_at_call 42; with_reducible refine (HA.out _).mono ?_; rintro e_ W_ ⟨rfl, hb⟩; replace Bp := Lib.hid (blk_below Bp.out hb); replace Bi := Lib.hid (blk_below Bi.out hb); replace KP := Lib.hid (Keep.below KP.out hb); replace MP := Lib.hid (MP.out.kept (grown_of hb) (by simp)); replace HO := Lib.hid (HO.out.kept (grown_of hb) (by cases Value.ownBlock v <;> simp)); replace HB := Lib.hid (Below.trans HB.out (Below.mono hb HB.out.size)); clear hb)
      | ((with_reducible refine gate_dst (N := 38) rfl ?_); refine wpList_load_cell rfl 54 (.tmp 37) rfl gp 3 rfl _ _ Bp.out v rfl _ Try.underlying54 rfl ?_)
      | (at_builtin; refine wpList_append_own_at _ rfl _ _ 54 rfl w0.heap.size 3 d3 (.int .i64 0) 1 8 Try.underlying54 I3.out.1 I3.out.2.1 I3.out.2.2.1 I3.out.2.2.2 rfl (by decide) v o.length (ordV o) rfl (HO.out.alloc _) ⟨_, 0, none⟩ 1 1 [.int .i64 i] rfl rfl (cell_one_new _ _ _) (by intro u_ hu_; rw [List.mem_singleton] at hu_; subst hu_; rfl) (by have := HN.out; unfold maxLen; omega) (by have := HN.out; omega) (by have := HB.out.size; simp; omega) ?_; intro v' wa ho_ hg_ _hz_ hn_; have KA := Lib.hid (Keep.grown (Keep.alloc KP.out _) hg_ (fun k_ e_ _ => Or.inr (Or.inr (Or.inr e_)))); have HBa := Lib.hid (Below.grown (HB.out.alloc HB.out.size _) hg_ (by have := HB.out.size; simp; omega) (fun k_ e_ => (HO.out.lt k_ e_).1)); have Bpa := Lib.hid (blk_grown (blk_alloc Bp.out _) hg_ (fun e_ => (HS.out.nv _ e_.symm).1 rfl)); have Bia := Lib.hid (blk_grown (blk_alloc Bi.out _) hg_ (fun e_ => (HS.out.nv _ e_.symm).2.1 rfl)); have MPa := Lib.hid ((MP.out.kept (World.grownBy_alloc _ _ none) (by simp)).kept hg_ (fun e_ => (HS.out.nv _ e_.symm).2.2 rfl)); have HNB := Lib.hid (newb_of HO.out Bp.out Bi.out MP.out.lt HS.out.nv KP.out.size hn_); clear KP HB Bp Bi MP HO; have KP := KA; have HB := HBa; have Bp := Bpa; have Bi := Bia; have MP := MPa; have HO := Lib.hid ho_; clear KA HBa Bpa Bia MPa ho_ hg_ hn_ _hz_)
      | ((with_reducible refine gate_store (t := 54) (p := 43) rfl ?_); refine store_cell_event rfl 54 (.tmp 43) (.tmp 41) rfl gp 3 v' rfl rfl 174 _ Bp.out (by show 3 < 5; decide) (by kernel_rfl) (owns_one HO.out).1 (owns_one HO.out).2 ?_; intro v43 h_ q_; replace Bi := Lib.hid (blk_grown Bi.out q_ (by intro e_; injection e_ with e_; exact HS.out.npi.symm e_)); replace KP := Lib.hid (Keep.grown KP.out q_ (fun k_ e_ _ => by injection e_ with e_; exact Or.inl e_.symm)); replace MP := Lib.hid (MP.out.kept q_ (by intro e_; injection e_ with e_; exact HS.out.npm e_.symm)); replace HO := Lib.hid (HO.out.kept q_ (Or.inr (fun e_ => (HNB.out.2 _ e_).1 rfl))); replace HB := Lib.hid (below_of_grown HB.out q_ HS.out.bp HB.out.size); replace Bp := Lib.hid h_; replace Bp : RowKit.Hid (v43.heap[gp]? = some (Obj.cells (srV (some ad) l.length c gi bm v' (leftN l o)) 174 (0, 0))) := Bp; clear h_ q_)
      | (fail))
    refine bodyPost_end (results_none rfl _ _ _) rfl ⟨rfl, ?_⟩
    exact ⟨v', ⟨by rw [HL.out]; exact Bp.out, Bi.out, MP.out, HB.out, by rw [ordV_snoc, List.length_append, show ((i.toNat : Nat) : Int) = i by have := PI.out; omega]; exact HO.out, HS.out.npi, HS.out.npm, HS.out.nim, HS.out.bp, HS.out.bbi, HS.out.bbm, HNB.out.2⟩, KP.out, HNB.out.1⟩
set_option maxRecDepth 100000 in
set_option maxHeartbeats 8000000 in
theorem put_no (w0 w : World) (A : Option Addr) (c : Nat) (l : List S39) (gp gi bm : Nat) (o : List Nat) (n : Nat) (m : KF) (v : Value) (i : Int) (hr : Kd.C k39 w0 A l.length l) (hc : l.length ≤ c) (hn : l.length ≤ 1000000) (ho : o.length ≤ 1000000) (i0 : 0 ≤ i) (i1 : i < (l.length : Int)) (hi : o.contains i.toNat = false) (hs : St w0 A c l gp gi bm w (o ++ [i.toNat]) n m v) :
    Calls Try.prog 123 #[.pointer (some ⟨gp, 0, none⟩), .int .i64 i, .int .i64 (-1)] w fun e w' => e = .returned (.tuple #[]) ∧ PutTo w0 A c l gp gi bm w o n m v w' := by
  obtain ⟨ad, eA, -⟩ := row39 hr i i0 i1
  subst eA
  obtain ⟨g, cap, rfl, hg1, hg2⟩ := owns_slice (n := o.length) (by have h := hs.ho; rw [List.length_append] at h; exact h)
  have HS := Lib.hid hs
  have KP := Lib.hid (Keep.refl (Xs gp gi bm (.slice (some ⟨g, 0, none⟩) (o.length + 1) cap)) w)
  have MP := Lib.hid hs.hm
  have HO := Lib.hid hs.ho
  have HB := Lib.hid hs.hb
  have Bp := Lib.hid hs.hp
  have Bi := Lib.hid hs.hi
  have HR := Lib.hid hr
  have HN := Lib.hid (And.intro hn ho)
  have HC := Lib.hid hi
  have PI := Lib.hid (show 0 ≤ i ∧ i < (l.length : Int) ∧ i.toNat < l.length by omega)
  have pI := eq_true i0
  have qI := eq_true i1
  obtain ⟨d3, i31, i32, i33, i34⟩ := info_parts info3
  have I3 := Lib.hid (And.intro i31 (And.intro i32 (And.intro i33 i34)))
  have IV := Lib.hid ((inV_at (o := o ++ [i.toNat]) PI.out.2.2).trans (by simp : _ = some (Value.int .i64 1)))
  have HA := Lib.hid (fun W => ans_any (rd_T39 l i) W)
  have LL := Lib.hid (left_le l (o ++ [i.toNat]))
  have ws5 : IntKind.i64.wrap (o.length : Int) = (o.length : Int) := by rw [i64_w]; have h3 := HN.out; unfold wrap64; omega
  have ws6 : wrap64 (o.length : Int) = (o.length : Int) := by have h3 := HN.out; unfold wrap64; omega
  have ws3 : ((o.length : Nat) : Int) ≤ (cap : Int) := by omega
  have ws4 : (0 : Int) ≤ ((o.length : Nat) : Int) := by omega
  clear hr hs i0 i1 hi i31 i32 i33 i34
  cases ha : ansB (rd_T39 l i) with
  | true =>
    rw [ha] at HA
    have wl1 : IntKind.i64.wrap ((leftN l (o ++ [i.toNat]) : Int) - -1) = ((leftN l o : Nat) : Int) := by rw [i64_w]; have h1 := left_ans PI.out.2.2 HC.out ha; have h2 := LL.out; have h3 := HN.out; unfold wrap64; omega
    have wl2 : wrap64 ((leftN l (o ++ [i.toNat]) : Int) - -1) = ((leftN l o : Nat) : Int) := by have h1 := left_ans PI.out.2.2 HC.out ha; have h2 := LL.out; have h3 := HN.out; unfold wrap64; omega
    have wl3 : IntKind.i64.wrap ((leftN l (o ++ [i.toNat]) : Int) + 1) = ((leftN l o : Nat) : Int) := by rw [i64_w]; have h1 := left_ans PI.out.2.2 HC.out ha; have h2 := LL.out; have h3 := HN.out; unfold wrap64; omega
    have wl4 : wrap64 ((leftN l (o ++ [i.toNat]) : Int) + 1) = ((leftN l o : Nat) : Int) := by have h1 := left_ans PI.out.2.2 HC.out ha; have h2 := LL.out; have h3 := HN.out; unfold wrap64; omega
    clear ha
    go_enter Try.func123, Try.ntmps123
    go_upto_region 5 with (first
      | ((with_reducible refine gate_dst (N := 9) rfl ?_); refine wpList_load_cell rfl 54 (.tmp 8) rfl gp 1 rfl _ _ Bp.out (.slice (some ⟨gi, 0, none⟩) l.length l.length) rfl _ Try.underlying54 rfl ?_)
      | ((with_reducible refine gate_dst (N := 12) rfl ?_); refine wpList_load_cell rfl 3 (.tmp 11) rfl gi i.toNat rfl _ _ Bi.out (.int .i64 1) IV.out _ Try.underlying3 rfl ?_)
      | ((with_reducible refine gate_store (t := 3) (p := 15) rfl ?_); refine store_cell_event rfl 3 (.tmp 15) (.tmp 14) rfl gi i.toNat (.int .i64 0) rfl rfl 3 _ Bi.out (by rw [inV_size]; exact PI.out.2.2) (by kernel_rfl) rfl rfl ?_; intro v15 h_ q_; replace Bp := Lib.hid (blk_grown Bp.out q_ (by intro e_; injection e_ with e_; exact HS.out.npi e_)); replace KP := Lib.hid (Keep.grown KP.out q_ (fun k_ e_ _ => by injection e_ with e_; exact Or.inr (Or.inl e_.symm))); replace MP := Lib.hid (MP.out.kept q_ (by intro e_; injection e_ with e_; exact HS.out.nim e_.symm)); replace HO := Lib.hid (HO.out.kept q_ (Or.inr (fun e_ => (HS.out.nv _ e_).2.1 rfl))); replace HB := Lib.hid (below_of_grown HB.out q_ HS.out.bbi HB.out.size); replace Bi := Lib.hid h_; rw [inV_back PI.out.2.2 HC.out] at Bi; clear h_ q_)
      | ((with_reducible refine gate_dst (N := 19) rfl ?_); refine wpList_load_cell rfl 22 (.tmp 18) rfl gp 0 rfl _ _ Bp.out (.slice (some ad) l.length c) rfl _ Try.underlying22 rfl ?_)
      | ((with_reducible refine gate_dst (N := 22) rfl ?_); refine wpList_load_p rfl 39 (.tmp 21) rfl (ad.add (i.toNat * 16)) rfl [.int .i64 (rd_T39 l i).f0, .int .i64 (rd_T39 l i).f1, .bool (rd_T39 l i).f2, .string (rd_T39 l i).f3, .int .i64 (rd_T39 l i).f4.f0, .string (rd_T39 l i).f4.f1, .string (rd_T39 l i).f4.f2, .int .i64 (rd_T39 l i).f4.f3, .int .i64 (rd_T39 l i).f5, .int .i64 (rd_T39 l i).f6, .int .i64 (rd_T39 l i).f7.f0, .int .i64 (rd_T39 l i).f7.f1, .string (rd_T39 l i).f8.f0, .string (rd_T39 l i).f8.f1, .int .i64 (rd_T39 l i).f8.f2, .bool (rd_T39 l i).f9] _ (row39' (Kd.C_below HR.out HB.out) i PI.out.1 PI.out.2.1) Try.underlying39 rfl (by kernel_rfl) ?_)
      | (go_at_call 42; with_reducible refine (HA.out _).mono ?_; rintro e_ W_ ⟨rfl, hb⟩; replace Bp := Lib.hid (blk_below Bp.out hb); replace Bi := Lib.hid (blk_below Bi.out hb); replace KP := Lib.hid (Keep.below KP.out hb); replace MP := Lib.hid (MP.out.kept (grown_of hb) (by simp)); replace HO := Lib.hid (HO.out.kept (grown_of hb) (by cases Value.ownBlock (.slice (some ⟨g, 0, none⟩) (o.length + 1) cap) <;> simp)); replace HB := Lib.hid (Below.trans HB.out (Below.mono hb HB.out.size)); clear hb)
      | ((with_reducible refine gate_dst (N := 27) rfl ?_); refine wpList_load_cell rfl 3 (.tmp 26) rfl gp 4 rfl _ _ Bp.out (.int .i64 (leftN l (o ++ [i.toNat]) : Int)) rfl _ Try.underlying3 rfl ?_)
      | ((with_reducible refine gate_store (t := 3) (p := 31) rfl ?_); refine store_cell_event rfl 3 (.tmp 31) (.tmp 29) rfl gp 4 (.int .i64 (leftN l o : Int)) rfl rfl 174 _ Bp.out (by show 4 < 5; decide) (by kernel_rfl) rfl rfl ?_; intro v31 h_ q_; replace Bi := Lib.hid (blk_grown Bi.out q_ (by intro e_; injection e_ with e_; exact HS.out.npi.symm e_)); replace KP := Lib.hid (Keep.grown KP.out q_ (fun k_ e_ _ => by injection e_ with e_; exact Or.inl e_.symm)); replace MP := Lib.hid (MP.out.kept q_ (by intro e_; injection e_ with e_; exact HS.out.npm e_.symm)); replace HO := Lib.hid (HO.out.kept q_ (Or.inr (fun e_ => (HS.out.nv _ e_).1 rfl))); replace HB := Lib.hid (below_of_grown HB.out q_ HS.out.bp HB.out.size); replace Bp := Lib.hid h_; replace Bp : RowKit.Hid (v31.heap[gp]? = some (Obj.cells (srV (some ad) l.length c gi bm (.slice (some ⟨g, 0, none⟩) (o.length + 1) cap) (leftN l o)) 174 (0, 0))) := Bp; clear h_ q_)
      | (fail))
    refine start_ (n := 15) (S := fun w1 => Below v31.heap.size v31 w1) (ds := [14]) (ar 15 0) (by kernel_rfl) rfl rfl (below_drew1 (Below.refl _ _)) (fun hHeld => ?_); refine with_tabW put.tab5 put.bits5 (fun HT_ HW_ => ?_)
    have HBz := Lib.hid (below_drew1 (Below.refl v31.heap.size v31))
    generalize v31.drew = wz at HBz hHeld ⊢
    refine pY 0 (some 44) (ar 15 1) HT_ (h := ?_)
    refine pY 1 (some 45) (ar 15 2) HT_ (h := ?_)
    refine pY 2 (some 46) (ar 15 3) HT_ (h := ?_)
    refine pY 3 (some 47) (ar 15 4) HT_ (h := ?_)
    refine take_ (i := 4) (N := (some 48)) (v := ?_) (a' := ?_) (ar 15 5) rfl rfl (take_ofW HT_.out HW_.out (by kernel_rfl)) (fun _ _ _ h => h) (Or.inl ⟨by rfl, ?_⟩) hHeld ?_ ?_; rotate_left; (· rintro w1 hs1; have kc : w1.cell? ⟨gp, 3, none⟩ = some (.slice (some ⟨g, 0, none⟩) (o.length + 1) cap) := (blk_cell (blk_below Bp.out hs1) 3).trans rfl; go_simp; with_reducible rfl); rotate_left; (· simp only [Act.put, List.setIfInBounds_toArray, List.set_cons_zero, List.set_cons_succ, i64_w, i32_w]; rfl)
    refine pY 5 (some 49) (ar 15 6) HT_ (h := ?_)
    refine pY 6 (some 50) (ar 15 7) HT_ (h := ?_)
    refine pY 7 (some 51) (ar 15 8) HT_ (h := ?_)
    refine take_ (i := 8) (N := (some 52)) (v := ?_) (a' := ?_) (ar 15 9) rfl rfl (take_ofW HT_.out HW_.out (by kernel_rfl)) (fun _ _ _ h => h) (Or.inl ⟨by rfl, ?_⟩) hHeld ?_ ?_; rotate_left; (· rintro w1 hs1; have kc : w1.cell? ⟨gp, 3, none⟩ = some (.slice (some ⟨g, 0, none⟩) (o.length + 1) cap) := (blk_cell (blk_below Bp.out hs1) 3).trans rfl; go_simp; with_reducible rfl); rotate_left; (· simp only [Act.put, List.setIfInBounds_toArray, List.set_cons_zero, List.set_cons_succ, i64_w, i32_w]; rfl)
    refine pY 9 (some 53) (ar 15 10) HT_ (h := ?_)
    refine pY 10 (some 54) (ar 15 11) HT_ (h := ?_)
    refine pY 11 (some 55) (ar 15 12) HT_ (h := ?_)
    refine pY 12 (some 56) (ar 15 13) HT_ (h := ?_)
    refine pY 13 (some 57) (ar 15 14) HT_ (h := ?_)
    refine last_ (i := 14) (N := none) (ar 15 15) rfl rfl (one_of HT_.out (by kernel_rfl)) (by decide) (fun K hK => ?_); refine wp_store_cell 54 (.tmp 57) (.tmp 55) rfl gp 3 (.slice (some ⟨g, 0, none⟩) o.length cap) rfl rfl 174 _ (blk_below Bp.out HBz.out) (by show 3 < 5; decide) (by kernel_rfl) rfl rfl ?_; intro wq h_ q_; refine hK.out _ _ ?_; clear hK K; have HQ := Lib.hid (And.intro h_ q_); clear h_ q_
    refine done_ (done_of HT_.out (by kernel_rfl)) ?_
    go_wp2
    refine bodyPost_end (results_none rfl _ _ _) rfl ⟨rfl, ?_⟩
    have KQ := Keep.grown (Keep.below KP.out HBz.out) HQ.out.2 (fun k_ e_ _ => by injection e_ with e_; exact Or.inl e_.symm)
    exact ⟨.slice (some ⟨g, 0, none⟩) o.length cap, ⟨HQ.out.1, blk_grown (blk_below Bi.out HBz.out) HQ.out.2 (by intro e_; injection e_ with e_; exact HS.out.npi e_.symm), (MP.out.kept (grown_of HBz.out) (by simp)).kept HQ.out.2 (by intro e_; injection e_ with e_; exact HS.out.npm e_.symm), below_of_grown (HB.out.trans (HBz.out.mono HB.out.size)) HQ.out.2 HS.out.bp (Nat.le_trans HB.out.size HBz.out.size), owns_shrink (x := .int .i64 ((i.toNat : Nat) : Int)) (by have h := (HO.out.kept (grown_of HBz.out) (Or.inr (by simp [Value.ownBlock]))).kept HQ.out.2 (Or.inr (fun e_ => (HS.out.nv _ e_).1 rfl)); rw [ordV_snoc, List.length_append] at h; exact h), HS.out.npi, HS.out.npm, HS.out.nim, HS.out.bp, HS.out.bbi, HS.out.bbm, HS.out.nv⟩, KQ, fun k hk => Or.inl hk⟩
  | false =>
    rw [ha] at HA
    have hl := left_not (l := l) (o := o) ha
    clear ha
    have HL := Lib.hid hl
    clear hl
    go_enter Try.func123, Try.ntmps123
    go_upto_region 5 with (first
      | ((with_reducible refine gate_dst (N := 9) rfl ?_); refine wpList_load_cell rfl 54 (.tmp 8) rfl gp 1 rfl _ _ Bp.out (.slice (some ⟨gi, 0, none⟩) l.length l.length) rfl _ Try.underlying54 rfl ?_)
      | ((with_reducible refine gate_dst (N := 12) rfl ?_); refine wpList_load_cell rfl 3 (.tmp 11) rfl gi i.toNat rfl _ _ Bi.out (.int .i64 1) IV.out _ Try.underlying3 rfl ?_)
      | ((with_reducible refine gate_store (t := 3) (p := 15) rfl ?_); refine store_cell_event rfl 3 (.tmp 15) (.tmp 14) rfl gi i.toNat (.int .i64 0) rfl rfl 3 _ Bi.out (by rw [inV_size]; exact PI.out.2.2) (by kernel_rfl) rfl rfl ?_; intro v15 h_ q_; replace Bp := Lib.hid (blk_grown Bp.out q_ (by intro e_; injection e_ with e_; exact HS.out.npi e_)); replace KP := Lib.hid (Keep.grown KP.out q_ (fun k_ e_ _ => by injection e_ with e_; exact Or.inr (Or.inl e_.symm))); replace MP := Lib.hid (MP.out.kept q_ (by intro e_; injection e_ with e_; exact HS.out.nim e_.symm)); replace HO := Lib.hid (HO.out.kept q_ (Or.inr (fun e_ => (HS.out.nv _ e_).2.1 rfl))); replace HB := Lib.hid (below_of_grown HB.out q_ HS.out.bbi HB.out.size); replace Bi := Lib.hid h_; rw [inV_back PI.out.2.2 HC.out] at Bi; clear h_ q_)
      | ((with_reducible refine gate_dst (N := 19) rfl ?_); refine wpList_load_cell rfl 22 (.tmp 18) rfl gp 0 rfl _ _ Bp.out (.slice (some ad) l.length c) rfl _ Try.underlying22 rfl ?_)
      | ((with_reducible refine gate_dst (N := 22) rfl ?_); refine wpList_load_p rfl 39 (.tmp 21) rfl (ad.add (i.toNat * 16)) rfl [.int .i64 (rd_T39 l i).f0, .int .i64 (rd_T39 l i).f1, .bool (rd_T39 l i).f2, .string (rd_T39 l i).f3, .int .i64 (rd_T39 l i).f4.f0, .string (rd_T39 l i).f4.f1, .string (rd_T39 l i).f4.f2, .int .i64 (rd_T39 l i).f4.f3, .int .i64 (rd_T39 l i).f5, .int .i64 (rd_T39 l i).f6, .int .i64 (rd_T39 l i).f7.f0, .int .i64 (rd_T39 l i).f7.f1, .string (rd_T39 l i).f8.f0, .string (rd_T39 l i).f8.f1, .int .i64 (rd_T39 l i).f8.f2, .bool (rd_T39 l i).f9] _ (row39' (Kd.C_below HR.out HB.out) i PI.out.1 PI.out.2.1) Try.underlying39 rfl (by kernel_rfl) ?_)
      | (go_at_call 42; with_reducible refine (HA.out _).mono ?_; rintro e_ W_ ⟨rfl, hb⟩; replace Bp := Lib.hid (blk_below Bp.out hb); replace Bi := Lib.hid (blk_below Bi.out hb); replace KP := Lib.hid (Keep.below KP.out hb); replace MP := Lib.hid (MP.out.kept (grown_of hb) (by simp)); replace HO := Lib.hid (HO.out.kept (grown_of hb) (by cases Value.ownBlock (.slice (some ⟨g, 0, none⟩) (o.length + 1) cap) <;> simp)); replace HB := Lib.hid (Below.trans HB.out (Below.mono hb HB.out.size)); clear hb)
      | (fail))
    refine start_ (n := 15) (S := fun w1 => Below W_.heap.size W_ w1) (ds := [14]) (ar 15 0) (by kernel_rfl) rfl rfl (below_drew1 (Below.refl _ _)) (fun hHeld => ?_); refine with_tabW put.tab5 put.bits5 (fun HT_ HW_ => ?_)
    have HBz := Lib.hid (below_drew1 (Below.refl W_.heap.size W_))
    generalize W_.drew = wz at HBz hHeld ⊢
    refine pY 0 (some 44) (ar 15 1) HT_ (h := ?_)
    refine pY 1 (some 45) (ar 15 2) HT_ (h := ?_)
    refine pY 2 (some 46) (ar 15 3) HT_ (h := ?_)
    refine pY 3 (some 47) (ar 15 4) HT_ (h := ?_)
    refine take_ (i := 4) (N := (some 48)) (v := ?_) (a' := ?_) (ar 15 5) rfl rfl (take_ofW HT_.out HW_.out (by kernel_rfl)) (fun _ _ _ h => h) (Or.inl ⟨by rfl, ?_⟩) hHeld ?_ ?_; rotate_left; (· rintro w1 hs1; have kc : w1.cell? ⟨gp, 3, none⟩ = some (.slice (some ⟨g, 0, none⟩) (o.length + 1) cap) := (blk_cell (blk_below Bp.out hs1) 3).trans rfl; go_simp; with_reducible rfl); rotate_left; (· simp only [Act.put, List.setIfInBounds_toArray, List.set_cons_zero, List.set_cons_succ, i64_w, i32_w]; rfl)
    refine pY 5 (some 49) (ar 15 6) HT_ (h := ?_)
    refine pY 6 (some 50) (ar 15 7) HT_ (h := ?_)
    refine pY 7 (some 51) (ar 15 8) HT_ (h := ?_)
    refine take_ (i := 8) (N := (some 52)) (v := ?_) (a' := ?_) (ar 15 9) rfl rfl (take_ofW HT_.out HW_.out (by kernel_rfl)) (fun _ _ _ h => h) (Or.inl ⟨by rfl, ?_⟩) hHeld ?_ ?_; rotate_left; (· rintro w1 hs1; have kc : w1.cell? ⟨gp, 3, none⟩ = some (.slice (some ⟨g, 0, none⟩) (o.length + 1) cap) := (blk_cell (blk_below Bp.out hs1) 3).trans rfl; go_simp; with_reducible rfl); rotate_left; (· simp only [Act.put, List.setIfInBounds_toArray, List.set_cons_zero, List.set_cons_succ, i64_w, i32_w]; rfl)
    refine pY 9 (some 53) (ar 15 10) HT_ (h := ?_)
    refine pY 10 (some 54) (ar 15 11) HT_ (h := ?_)
    refine pY 11 (some 55) (ar 15 12) HT_ (h := ?_)
    refine pY 12 (some 56) (ar 15 13) HT_ (h := ?_)
    refine pY 13 (some 57) (ar 15 14) HT_ (h := ?_)
    refine last_ (i := 14) (N := none) (ar 15 15) rfl rfl (one_of HT_.out (by kernel_rfl)) (by decide) (fun K hK => ?_); refine wp_store_cell 54 (.tmp 57) (.tmp 55) rfl gp 3 (.slice (some ⟨g, 0, none⟩) o.length cap) rfl rfl 174 _ (blk_below Bp.out HBz.out) (by show 3 < 5; decide) (by kernel_rfl) rfl rfl ?_; intro wq h_ q_; refine hK.out _ _ ?_; clear hK K; have HQ := Lib.hid (And.intro h_ q_); clear h_ q_
    refine done_ (done_of HT_.out (by kernel_rfl)) ?_
    go_wp2
    refine bodyPost_end (results_none rfl _ _ _) rfl ⟨rfl, ?_⟩
    have KQ := Keep.grown (Keep.below KP.out HBz.out) HQ.out.2 (fun k_ e_ _ => by injection e_ with e_; exact Or.inl e_.symm)
    exact ⟨.slice (some ⟨g, 0, none⟩) o.length cap, ⟨by rw [← HL.out]; exact HQ.out.1, blk_grown (blk_below Bi.out HBz.out) HQ.out.2 (by intro e_; injection e_ with e_; exact HS.out.npi e_.symm), (MP.out.kept (grown_of HBz.out) (by simp)).kept HQ.out.2 (by intro e_; injection e_ with e_; exact HS.out.npm e_.symm), below_of_grown (HB.out.trans (HBz.out.mono HB.out.size)) HQ.out.2 HS.out.bp (Nat.le_trans HB.out.size HBz.out.size), owns_shrink (x := .int .i64 ((i.toNat : Nat) : Int)) (by have h := (HO.out.kept (grown_of HBz.out) (Or.inr (by simp [Value.ownBlock]))).kept HQ.out.2 (Or.inr (fun e_ => (HS.out.nv _ e_).1 rfl)); rw [ordV_snoc, List.length_append] at h; exact h), HS.out.npi, HS.out.npm, HS.out.nim, HS.out.bp, HS.out.bbi, HS.out.bbm, HS.out.nv⟩, KQ, fun k hk => Or.inl hk⟩
end Go.Proofs.Ytbakmkoppieelaa.PLinearChecks

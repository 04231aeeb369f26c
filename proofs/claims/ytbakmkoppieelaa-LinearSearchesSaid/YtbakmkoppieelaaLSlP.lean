/- What is proved: whether a call may be, of the program; its Check of an operation; no condition. -/
import Derived.Test.YtbakmkoppieelaaLSlE
namespace Go.Proofs.Ytbakmkoppieelaa.PLinearChecks
open Go.RowKit Go.Proofs.YtbakmkoppieelaaW.PrintWords Go.Proofs.YtbakmkoppieelaaW.PrintLast Go.Proofs.YtbakmkoppieelaaW.PrintMore
set_option linter.unusedVariables false
set_option linter.unusedSimpArgs false
set_option maxRecDepth 100000 in
set_option maxHeartbeats 16000000 in
theorem dl_run (k : Int) (s v : ByteArray) (n : Int) (w : World) : Calls Try.prog 86 #[.agg #[.int .i64 k, .string s, .string v, .int .i64 n]] w fun e w' => e = .returned (.int .i64 (chkF k s v n)) ∧ Below w.heap.size w w' := by
  have hu := Try.underlying32
  obtain ⟨bu, hbu⟩ : ∃ q, RowKit.Hid (usrB s = q) := ⟨_, Lib.hid rfl⟩
  have HU := Lib.hid (fun W => duser_ax s bu hbu.out W)
  obtain ⟨bv, hbv⟩ : ∃ q, RowKit.Hid (wiB n 0 1152921504606846976 = q) := ⟨_, Lib.hid rfl⟩
  have HV := Lib.hid (fun W => dwithin_ax n 0 1152921504606846976 bv hbv.out W)
  go_enter Try.func86, Try.ntmps86
  go_wp2_with (first
    | ((with_reducible refine gate_dst (N := 1) rfl ?_); refine box_event rfl (N := 1) rfl (cs := #[.int .i64 k, .string s, .string v, .int .i64 n]) (t := 32) (by first | (go_simp; done) | (go_simp; rfl)) ?_; intro B e_ W1 h1 b1; have G := Lib.hid (And.intro h1 b1); clear e_ h1 b1; obtain ⟨z0, z1, z2, z3⟩ := cells4 G.out.1)
    | (go_at_call 122; (with_reducible refine (HU.out _).mono ?_); rintro e_ W_ ⟨rfl, hdr⟩; have hb := hdr.below; clear hdr; replace G := Lib.hid (And.intro (blk_below G.out.1 hb) (below_step G.out.2 hb)); clear z0 z1 z2 z3; obtain ⟨z0, z1, z2, z3⟩ := cells4 G.out.1; clear hb)
    | (go_at_call 85; (with_reducible refine (HV.out _).mono ?_); rintro e_ W_ ⟨rfl, hdr⟩; have hb := hdr.below; clear hdr; replace G := Lib.hid (And.intro (blk_below G.out.1 hb) (below_step G.out.2 hb)); clear z0 z1 z2 z3; obtain ⟨z0, z1, z2, z3⟩ := cells4 G.out.1; clear hb)
    | (fail))
  all_goals (go_ret; refine ⟨ret_i ?_, G.out.2⟩; clear HU HV G hu z0 z1 z2 z3; first | (have q3 := hbu.out; have q5 := hbv.out; unfold chkF; simp_all [wiB, e0_list0] <;> first | omega | grind))
theorem dl_any (a0_0 : Int) (a0_1 : ByteArray) (a0_2 : ByteArray) (a0_3 : Int) : ∃ r, (r = 0 ↔ opB a0_0 a0_1 a0_2 a0_3 = true) ∧ ∀ w, Calls Try.prog 86 #[.agg #[.int .i64 a0_0, .string a0_1, .string a0_2, .int .i64 a0_3]] w fun e w' => e = .returned (.int .i64 r) ∧ Below w.heap.size w w' := ⟨_, chk_iff a0_0 a0_1 a0_2 a0_3, fun w => dl_run _ _ _ _ w⟩
set_option maxRecDepth 100000 in
set_option maxHeartbeats 16000000 in
theorem readMay_any (a0 a1 : Int) (a2 : Bool) (a3 : ByteArray) (a4 : Int) (a5 a6 : ByteArray) (a7 a8 a9 a10 a11 : Int) (a12 a13 : ByteArray) (a14 : Int) (a15 : Bool) (w : World) : Calls Try.prog 78 #[.agg #[.int .i64 a0, .int .i64 a1, .bool a2, .string a3, .int .i64 a4, .string a5, .string a6, .int .i64 a7, .int .i64 a8, .int .i64 a9, .int .i64 a10, .int .i64 a11, .string a12, .string a13, .int .i64 a14, .bool a15]] w fun e w' => e = .returned (.bool (readB a3 a4 a5 a6 a7 a9 a10 a11 a12 a13 a14 a15)) ∧ Below w.heap.size w w' := by
  have hu32 := Try.underlying32
  have hu35 := Try.underlying35
  have hu37 := Try.underlying37
  obtain ⟨zo, hzo⟩ : ∃ q, RowKit.Hid (opZ a4 a5 a6 a7 = q) := ⟨_, Lib.hid rfl⟩
  obtain ⟨zr, hzr⟩ : ∃ q, RowKit.Hid (resZ a10 a11 = q) := ⟨_, Lib.hid rfl⟩
  obtain ⟨zw, hzw⟩ : ∃ q, RowKit.Hid (rowZ a12 a13 a14 = q) := ⟨_, Lib.hid rfl⟩
  obtain ⟨bu, hbu⟩ : ∃ q, RowKit.Hid (usrB a3 = q) := ⟨_, Lib.hid rfl⟩
  obtain ⟨e9, he9⟩ : ∃ q, RowKit.Hid ((a9 != -1) = q) := ⟨_, Lib.hid rfl⟩
  obtain ⟨bv, hbv⟩ : ∃ q, RowKit.Hid (wiB a14 1 1152921504606846976 = q) := ⟨_, Lib.hid rfl⟩
  have HU := Lib.hid (fun W => isUser_ax a3 bu hbu.out W)
  have HV := Lib.hid (fun W => within_ax a14 1 1152921504606846976 bv hbv.out W)
  go_enter Try.func78, Try.ntmps78
  go_wp2_with (first
    | ((with_reducible refine gate_dst (N := 1) rfl ?_); refine box_event rfl (N := 1) rfl (cs := #[.int .i64 a0, .int .i64 a1, .bool a2, .string a3, .int .i64 a4, .string a5, .string a6, .int .i64 a7, .int .i64 a8, .int .i64 a9, .int .i64 a10, .int .i64 a11, .string a12, .string a13, .int .i64 a14, .bool a15]) (t := 39) (by first | (go_simp; done) | (go_simp; rfl)) ?_; intro B e_ W1 h1 b1; have G := Lib.hid (And.intro h1 b1); clear e_ h1 b1; obtain ⟨z0, z1, z2, z3, z4, z5, z6, z7, z8, z9, z10, z11, z12, z13, z14, z15⟩ := cells16 G.out.1)
    | (go_at_call 120; (with_reducible refine (HU.out _).mono ?_); rintro e_ W_ ⟨rfl, hdr⟩; have hb := hdr.below; clear hdr; replace G := Lib.hid (And.intro (blk_below G.out.1 hb) (below_step G.out.2 hb)); clear z0 z1 z2 z3 z4 z5 z6 z7 z8 z9 z10 z11 z12 z13 z14 z15; obtain ⟨z0, z1, z2, z3, z4, z5, z6, z7, z8, z9, z10, z11, z12, z13, z14, z15⟩ := cells16 G.out.1; clear hb)
    | ((with_reducible refine gate_dst (N := 12) rfl ?_); (try (refine gate_guard (by rfl) ?_; dsimp only)); refine neq_event rfl rfl rfl rfl (by kernel_rfl) (opz_eq hzo.out) ?_)
    | ((with_reducible refine gate_dst (N := 18) rfl ?_); (try (refine gate_guard (by rfl) ?_; dsimp only)); refine neq_event rfl rfl rfl rfl (by kernel_rfl) (resz_eq hzr.out) ?_)
    | ((with_reducible refine gate_dst (N := 20) rfl ?_); (try (refine gate_guard (by rfl) ?_; dsimp only)); refine wpList_load_row rfl 39 (.tmp 1) rfl B rfl 39 _ (0, 0) _ G.out.1 Try.underlying39 rfl (by kernel_rfl) ?_)
    | (go_at_call 42; (with_reducible refine (answered_any _ _ _ _ _ _ _ _ _ _ _ _ _ _ _ _ _ he9.out _).mono ?_); rintro e_ W_ ⟨rfl, hb⟩; replace G := Lib.hid (And.intro (blk_below G.out.1 hb) (below_step G.out.2 hb)); clear z0 z1 z2 z3 z4 z5 z6 z7 z8 z9 z10 z11 z12 z13 z14 z15; obtain ⟨z0, z1, z2, z3, z4, z5, z6, z7, z8, z9, z10, z11, z12, z13, z14, z15⟩ := cells16 G.out.1; clear hb)
    | ((with_reducible refine gate_dst (N := 31) rfl ?_); (try (refine gate_guard (by rfl) ?_; dsimp only)); refine eql_event rfl rfl rfl rfl (by kernel_rfl) (rowz_eq hzw.out) ?_)
    | ((with_reducible refine gate_dst (N := 3) rfl ?_); refine box_event rfl (N := 3) rfl (cs := #[.string ⟨#[]⟩, .string ⟨#[]⟩, .int .i64 0]) (t := 37) (by first | (go_simp; done) | (go_simp; rfl)) ?_; intro B2 e2 W2 h2 b2; have N2 := Lib.hid (Nat.ne_of_lt (Nat.lt_of_lt_of_eq (blk_lt G.out.1) e2.symm)); have L2 := Lib.hid (Nat.le_trans G.out.2.size (Nat.le_of_eq e2.symm)); have G2 := Lib.hid h2; replace G := Lib.hid (And.intro (blk_below G.out.1 b2) (below_step G.out.2 b2)); clear z0 z1 z2 z3 z4 z5 z6 z7 z8 z9 z10 z11 z12 z13 z14 z15; obtain ⟨z0, z1, z2, z3, z4, z5, z6, z7, z8, z9, z10, z11, z12, z13, z14, z15⟩ := cells16 G.out.1; clear h2 b2 e2)
    | ((with_reducible refine gate_store (t := 37) (p := 3) rfl ?_); refine store_row_event rfl 37 (.tmp 3) (.tmp 38) rfl B2 _ rfl rfl 37 _ G2.out (by kernel_rfl) rfl (by simp [Value.oneCell']) ?_; intro W3 h_ q_; have y0 := (blk_cell h_ 0).trans (rfl : _ = some (Value.string a12)); have y1 := (blk_cell h_ 1).trans (rfl : _ = some (Value.string a13)); have y2 := (blk_cell h_ 2).trans (rfl : _ = some (Value.int .i64 a14)); replace G := Lib.hid (And.intro (blk_grown G.out.1 q_ (by intro e_; injection e_ with e_; exact N2.out e_)) (below_of_grown G.out.2 q_ L2.out G.out.2.size)); clear z0 z1 z2 z3 z4 z5 z6 z7 z8 z9 z10 z11 z12 z13 z14 z15 h_ q_; obtain ⟨z0, z1, z2, z3, z4, z5, z6, z7, z8, z9, z10, z11, z12, z13, z14, z15⟩ := cells16 G.out.1)
    | (go_at_call 70; (with_reducible refine (HV.out _).mono ?_); rintro e_ W_ ⟨rfl, hdr⟩; have hb := hdr.below; clear hdr; replace G := Lib.hid (And.intro (blk_below G.out.1 hb) (below_step G.out.2 hb)); clear z0 z1 z2 z3 z4 z5 z6 z7 z8 z9 z10 z11 z12 z13 z14 z15; obtain ⟨z0, z1, z2, z3, z4, z5, z6, z7, z8, z9, z10, z11, z12, z13, z14, z15⟩ := cells16 G.out.1; clear hb)
    | (fail))
  all_goals (go_ret; refine ⟨ret_b ?_, G.out.2⟩; clear HU HV G hu32 hu35 hu37 z0 z1 z2 z3 z4 z5 z6 z7 z8 z9 z10 z11 z12 z13 z14 z15; first | (have q0 := hzo.out; have q1 := hzr.out; have q2 := hzw.out; have q3 := hbu.out; have q4 := he9.out; have q5 := hbv.out; unfold readB; simp_all <;> first | omega | grind))
set_option maxRecDepth 100000 in
set_option maxHeartbeats 16000000 in
theorem updateMay_any (a0 a1 : Int) (a2 : Bool) (a3 : ByteArray) (a4 : Int) (a5 a6 : ByteArray) (a7 a8 a9 a10 a11 : Int) (a12 a13 : ByteArray) (a14 : Int) (a15 : Bool) (w : World) : Calls Try.prog 79 #[.agg #[.int .i64 a0, .int .i64 a1, .bool a2, .string a3, .int .i64 a4, .string a5, .string a6, .int .i64 a7, .int .i64 a8, .int .i64 a9, .int .i64 a10, .int .i64 a11, .string a12, .string a13, .int .i64 a14, .bool a15]] w fun e w' => e = .returned (.bool (updB a3 a4 a5 a6 a7 a9 a10 a11 a12 a13 a14 a15)) ∧ Below w.heap.size w w' := by
  have hu32 := Try.underlying32
  have hu35 := Try.underlying35
  have hu37 := Try.underlying37
  obtain ⟨zr, hzr⟩ : ∃ q, RowKit.Hid (resZ a10 a11 = q) := ⟨_, Lib.hid rfl⟩
  obtain ⟨zw, hzw⟩ : ∃ q, RowKit.Hid (rowZ a12 a13 a14 = q) := ⟨_, Lib.hid rfl⟩
  obtain ⟨e9, he9⟩ : ∃ q, RowKit.Hid ((a9 != -1) = q) := ⟨_, Lib.hid rfl⟩
  obtain ⟨be, hbe⟩ : ∃ q, RowKit.Hid (resB a4 a7 a10 a11 = q) := ⟨_, Lib.hid rfl⟩
  obtain ⟨bo, hbo⟩ : ∃ q, RowKit.Hid (opB a4 a5 a6 a7 = q) := ⟨_, Lib.hid rfl⟩
  obtain ⟨n86, h86, hd⟩ := dl_any a4 a5 a6 a7
  rw [hbo.out] at h86
  have HD := Lib.hid hd
  have H86 := Lib.hid h86
  have HR := Lib.hid (fun W => res_ax a4 a5 a6 a7 a10 a11 be hbe.out W)
  clear hd h86
  go_enter Try.func79, Try.ntmps79
  go_wp2_with (first
    | ((with_reducible refine gate_dst (N := 1) rfl ?_); refine box_event rfl (N := 1) rfl (cs := #[.int .i64 a0, .int .i64 a1, .bool a2, .string a3, .int .i64 a4, .string a5, .string a6, .int .i64 a7, .int .i64 a8, .int .i64 a9, .int .i64 a10, .int .i64 a11, .string a12, .string a13, .int .i64 a14, .bool a15]) (t := 39) (by first | (go_simp; done) | (go_simp; rfl)) ?_; intro B e_ W1 h1 b1; have G := Lib.hid (And.intro h1 b1); clear e_ h1 b1; obtain ⟨z0, z1, z2, z3, z4, z5, z6, z7, z8, z9, z10, z11, z12, z13, z14, z15⟩ := cells16 G.out.1)
    | (go_at_call 86; (with_reducible refine (HD.out _).mono ?_); rintro e_ W_ ⟨rfl, hb⟩; replace G := Lib.hid (And.intro (blk_below G.out.1 hb) (below_step G.out.2 hb)); clear z0 z1 z2 z3 z4 z5 z6 z7 z8 z9 z10 z11 z12 z13 z14 z15; obtain ⟨z0, z1, z2, z3, z4, z5, z6, z7, z8, z9, z10, z11, z12, z13, z14, z15⟩ := cells16 G.out.1; clear hb)
    | ((with_reducible refine gate_dst (N := 23) rfl ?_); (try (refine gate_guard (by rfl) ?_; dsimp only)); refine neq_event rfl rfl rfl rfl (by kernel_rfl) (rowz_eq hzw.out) ?_)
    | ((with_reducible refine gate_dst (N := 25) rfl ?_); (try (refine gate_guard (by rfl) ?_; dsimp only)); refine wpList_load_row rfl 39 (.tmp 1) rfl B rfl 39 _ (0, 0) _ G.out.1 Try.underlying39 rfl (by kernel_rfl) ?_)
    | (go_at_call 42; (with_reducible refine (answered_any _ _ _ _ _ _ _ _ _ _ _ _ _ _ _ _ _ he9.out _).mono ?_); rintro e_ W_ ⟨rfl, hb⟩; replace G := Lib.hid (And.intro (blk_below G.out.1 hb) (below_step G.out.2 hb)); clear z0 z1 z2 z3 z4 z5 z6 z7 z8 z9 z10 z11 z12 z13 z14 z15; obtain ⟨z0, z1, z2, z3, z4, z5, z6, z7, z8, z9, z10, z11, z12, z13, z14, z15⟩ := cells16 G.out.1; clear hb)
    | ((with_reducible refine gate_dst (N := 31) rfl ?_); (try (refine gate_guard (by rfl) ?_; dsimp only)); refine eql_event rfl rfl rfl rfl (by kernel_rfl) (resz_eq hzr.out) ?_)
    | (go_at_call 121; (with_reducible refine (HR.out _).mono ?_); rintro e_ W_ ⟨rfl, hb⟩; replace G := Lib.hid (And.intro (blk_below G.out.1 hb) (below_step G.out.2 hb)); clear z0 z1 z2 z3 z4 z5 z6 z7 z8 z9 z10 z11 z12 z13 z14 z15; obtain ⟨z0, z1, z2, z3, z4, z5, z6, z7, z8, z9, z10, z11, z12, z13, z14, z15⟩ := cells16 G.out.1; clear hb)
    | (fail))
  all_goals (go_ret; refine ⟨ret_b ?_, G.out.2⟩; clear HD HR G hu32 hu35 hu37 z0 z1 z2 z3 z4 z5 z6 z7 z8 z9 z10 z11 z12 z13 z14 z15; first | (have q1 := hzr.out; have q2 := hzw.out; have q4 := he9.out; have q5 := hbe.out; have q6 := hbo.out; have q8 := H86.out; unfold updB; simp_all <;> first | omega | grind))
set_option maxRecDepth 100000 in
set_option maxHeartbeats 16000000 in
theorem callMay_any (a0 a1 : Int) (a2 : Bool) (a3 : ByteArray) (a4 : Int) (a5 a6 : ByteArray) (a7 a8 a9 a10 a11 : Int) (a12 a13 : ByteArray) (a14 : Int) (a15 : Bool) (w : World) : Calls Try.prog 41 #[.agg #[.int .i64 a0, .int .i64 a1, .bool a2, .string a3, .int .i64 a4, .string a5, .string a6, .int .i64 a7, .int .i64 a8, .int .i64 a9, .int .i64 a10, .int .i64 a11, .string a12, .string a13, .int .i64 a14, .bool a15]] w fun e w' => e = .returned (.bool (mayB16 a0 a1 a2 a3 a4 a5 a6 a7 a8 a9 a10 a11 a12 a13 a14 a15)) ∧ Below w.heap.size w w' := by
  have hu32 := Try.underlying32
  have hu35 := Try.underlying35
  have hu37 := Try.underlying37
  obtain ⟨e9, he9⟩ : ∃ q, RowKit.Hid ((a9 != -1) = q) := ⟨_, Lib.hid rfl⟩
  obtain ⟨b1, hb1⟩ : ∃ q, RowKit.Hid (wiB a0 1 16 = q) := ⟨_, Lib.hid rfl⟩
  obtain ⟨b2, hb2⟩ : ∃ q, RowKit.Hid (wiB a1 1 1152921504606846976 = q) := ⟨_, Lib.hid rfl⟩
  have H1 := Lib.hid (fun W => within_ax a0 1 16 b1 hb1.out W)
  have H2 := Lib.hid (fun W => within_ax a1 1 1152921504606846976 b2 hb2.out W)
  go_enter Try.func41, Try.ntmps41
  go_wp2_with (first
    | ((with_reducible refine gate_dst (N := 1) rfl ?_); refine box_event rfl (N := 1) rfl (cs := #[.int .i64 a0, .int .i64 a1, .bool a2, .string a3, .int .i64 a4, .string a5, .string a6, .int .i64 a7, .int .i64 a8, .int .i64 a9, .int .i64 a10, .int .i64 a11, .string a12, .string a13, .int .i64 a14, .bool a15]) (t := 39) (by first | (go_simp; done) | (go_simp; rfl)) ?_; intro B e_ W1 h1 b1; have G := Lib.hid (And.intro h1 b1); clear e_ h1 b1; obtain ⟨z0, z1, z2, z3, z4, z5, z6, z7, z8, z9, z10, z11, z12, z13, z14, z15⟩ := cells16 G.out.1)
    | (go_at_call 70; (with_reducible refine (H1.out _).mono ?_); rintro e_ W_ ⟨rfl, hdr⟩; have hb := hdr.below; clear hdr; replace G := Lib.hid (And.intro (blk_below G.out.1 hb) (below_step G.out.2 hb)); clear z0 z1 z2 z3 z4 z5 z6 z7 z8 z9 z10 z11 z12 z13 z14 z15; obtain ⟨z0, z1, z2, z3, z4, z5, z6, z7, z8, z9, z10, z11, z12, z13, z14, z15⟩ := cells16 G.out.1; clear hb)
    | (go_at_call 70; (with_reducible refine (H2.out _).mono ?_); rintro e_ W_ ⟨rfl, hdr⟩; have hb := hdr.below; clear hdr; replace G := Lib.hid (And.intro (blk_below G.out.1 hb) (below_step G.out.2 hb)); clear z0 z1 z2 z3 z4 z5 z6 z7 z8 z9 z10 z11 z12 z13 z14 z15; obtain ⟨z0, z1, z2, z3, z4, z5, z6, z7, z8, z9, z10, z11, z12, z13, z14, z15⟩ := cells16 G.out.1; clear hb)
    | ((with_reducible refine gate_dst (N := 21) rfl ?_); (try (refine gate_guard (by rfl) ?_; dsimp only)); refine neqi_event rfl rfl rfl rfl he9.out ?_)
    | ((with_reducible refine gate_dst (N := 32) rfl ?_); (try (refine gate_guard (by rfl) ?_; dsimp only)); refine wpList_load_row rfl 39 (.tmp 1) rfl B rfl 39 _ (0, 0) _ G.out.1 Try.underlying39 rfl (by kernel_rfl) ?_)
    | ((with_reducible refine gate_dst (N := 34) rfl ?_); (try (refine gate_guard (by rfl) ?_; dsimp only)); refine wpList_load_row rfl 39 (.tmp 1) rfl B rfl 39 _ (0, 0) _ G.out.1 Try.underlying39 rfl (by kernel_rfl) ?_)
    | (go_at_call 78; (with_reducible refine (readMay_any _ _ _ _ _ _ _ _ _ _ _ _ _ _ _ _ _).mono ?_); rintro e_ W_ ⟨rfl, hb⟩; replace G := Lib.hid (And.intro (blk_below G.out.1 hb) (below_step G.out.2 hb)); clear z0 z1 z2 z3 z4 z5 z6 z7 z8 z9 z10 z11 z12 z13 z14 z15; obtain ⟨z0, z1, z2, z3, z4, z5, z6, z7, z8, z9, z10, z11, z12, z13, z14, z15⟩ := cells16 G.out.1; clear hb)
    | (go_at_call 79; (with_reducible refine (updateMay_any _ _ _ _ _ _ _ _ _ _ _ _ _ _ _ _ _).mono ?_); rintro e_ W_ ⟨rfl, hb⟩; replace G := Lib.hid (And.intro (blk_below G.out.1 hb) (below_step G.out.2 hb)); clear z0 z1 z2 z3 z4 z5 z6 z7 z8 z9 z10 z11 z12 z13 z14 z15; obtain ⟨z0, z1, z2, z3, z4, z5, z6, z7, z8, z9, z10, z11, z12, z13, z14, z15⟩ := cells16 G.out.1; clear hb)
    | (fail))
  all_goals (go_ret; refine ⟨ret_b ?_, G.out.2⟩; clear H1 H2 G hu32 hu35 hu37 z0 z1 z2 z3 z4 z5 z6 z7 z8 z9 z10 z11 z12 z13 z14 z15; first | (have q4 := he9.out; have q5 := hb1.out; have q6 := hb2.out; unfold mayB16; simp_all <;> first | omega | grind) | (have r1 : decide (a8 < 0) = false := decide_eq_false (by omega); have r2 : decide (a9 ≤ a8) = false := decide_eq_false (by grind); have r3 : (a9 == -1) = false := (by grind); have q4 := he9.out; have q5 := hb1.out; have q6 := hb2.out; unfold mayB16; rw [r1, r2, r3]; simp_all))
end Go.Proofs.Ytbakmkoppieelaa.PLinearChecks

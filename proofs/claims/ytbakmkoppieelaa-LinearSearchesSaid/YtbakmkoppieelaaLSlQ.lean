/- What is proved: whether a call may be, of the reference; its Check of an operation; no condition. -/
import Derived.Test.YtbakmkoppieelaaLSlE
namespace Go.Proofs.Ytbakmkoppieelaa.PLinearChecks
open Go.RowKit Go.Proofs.YtbakmkoppieelaaW.PrintWords Go.Proofs.YtbakmkoppieelaaW.PrintLast Go.Proofs.YtbakmkoppieelaaW.PrintMore
set_option linter.unusedVariables false
set_option linter.unusedSimpArgs false
set_option maxRecDepth 100000 in
set_option maxHeartbeats 16000000 in
theorem dr_run (k : Int) (s v : ByteArray) (n : Int) (w : World) : Calls Try.prog 80 #[.agg #[.int .i64 k, .string s, .string v, .int .i64 n]] w fun e w' => e = .returned (.int .i64 (chkF k s v n)) ∧ Below w.heap.size w w' := by
  have hu := Try.underlying113
  obtain ⟨bu, hbu⟩ : ∃ q, RowKit.Hid (usrB s = q) := ⟨_, Lib.hid rfl⟩
  have HU := Lib.hid (fun W => ruser_ax s bu hbu.out W)
  go_enter Try.func80, Try.ntmps80
  go_wp2_with (first
    | ((with_reducible refine gate_dst (N := 1) rfl ?_); refine box_event rfl (N := 1) rfl (cs := #[.int .i64 k, .string s, .string v, .int .i64 n]) (t := 113) (by first | (go_simp; done) | (go_simp; rfl)) ?_; intro B e_ W1 h1 b1; have G := Lib.hid (And.intro h1 b1); clear e_ h1 b1; obtain ⟨z0, z1, z2, z3⟩ := cells4 G.out.1)
    | (go_at_call 83; (with_reducible refine (HU.out _).mono ?_); rintro e_ W_ ⟨rfl, hdr⟩; have hb := hdr.below; clear hdr; replace G := Lib.hid (And.intro (blk_below G.out.1 hb) (below_step G.out.2 hb)); clear z0 z1 z2 z3; obtain ⟨z0, z1, z2, z3⟩ := cells4 G.out.1; clear hb)
    | (fail))
  all_goals (go_ret; refine ⟨ret_i ?_, G.out.2⟩; clear HU  G hu z0 z1 z2 z3; first | (have q3 := hbu.out; unfold chkF; simp_all [wiB, e0_list0] <;> first | omega | grind))
theorem dr_any (a0_0 : Int) (a0_1 : ByteArray) (a0_2 : ByteArray) (a0_3 : Int) : ∃ r, (r = 0 ↔ opB a0_0 a0_1 a0_2 a0_3 = true) ∧ ∀ w, Calls Try.prog 80 #[.agg #[.int .i64 a0_0, .string a0_1, .string a0_2, .int .i64 a0_3]] w fun e w' => e = .returned (.int .i64 r) ∧ Below w.heap.size w w' := ⟨_, chk_iff a0_0 a0_1 a0_2 a0_3, fun w => dr_run _ _ _ _ w⟩
set_option maxRecDepth 100000 in
set_option maxHeartbeats 16000000 in
theorem may_any (a0 a1 : Int) (a2 : Bool) (a3 : ByteArray) (a4 : Int) (a5 a6 : ByteArray) (a7 a8 a9 a10 a11 : Int) (a12 a13 : ByteArray) (a14 : Int) (a15 : Bool) (w : World) : Calls Try.prog 43 #[.agg #[.int .i64 a0, .int .i64 a1, .bool a2, .string a3, .int .i64 a4, .string a5, .string a6, .int .i64 a7, .int .i64 a8, .int .i64 a9, .int .i64 a10, .int .i64 a11, .string a12, .string a13, .int .i64 a14, .bool a15]] w fun e w' => e = .returned (.bool (mayB16 a0 a1 a2 a3 a4 a5 a6 a7 a8 a9 a10 a11 a12 a13 a14 a15)) ∧ Below w.heap.size w w' := by
  have hu32 := Try.underlying32
  have hu35 := Try.underlying35
  have hu37 := Try.underlying37
  obtain ⟨zo, hzo⟩ : ∃ q, RowKit.Hid (opZ a4 a5 a6 a7 = q) := ⟨_, Lib.hid rfl⟩
  obtain ⟨zr, hzr⟩ : ∃ q, RowKit.Hid (resZ a10 a11 = q) := ⟨_, Lib.hid rfl⟩
  obtain ⟨zw, hzw⟩ : ∃ q, RowKit.Hid (rowZ a12 a13 a14 = q) := ⟨_, Lib.hid rfl⟩
  obtain ⟨bu, hbu⟩ : ∃ q, RowKit.Hid (usrB a3 = q) := ⟨_, Lib.hid rfl⟩
  obtain ⟨be, hbe⟩ : ∃ q, RowKit.Hid (resB a4 a7 a10 a11 = q) := ⟨_, Lib.hid rfl⟩
  obtain ⟨bw, hbw⟩ : ∃ q, RowKit.Hid (rowB a3 a12 a13 a14 = q) := ⟨_, Lib.hid rfl⟩
  obtain ⟨bo, hbo⟩ : ∃ q, RowKit.Hid (opB a4 a5 a6 a7 = q) := ⟨_, Lib.hid rfl⟩
  obtain ⟨n80, h80, hd⟩ := dr_any a4 a5 a6 a7
  rw [hbo.out] at h80
  have HD := Lib.hid hd
  have H80 := Lib.hid h80
  have HP := Lib.hid (fun W => plainOp_ax a4 a5 a6 a7 W)
  have HU := Lib.hid (fun W => user_ax a3 bu hbu.out W)
  have HR := Lib.hid (fun W => rres_ax a4 a5 a6 a7 a10 a11 be hbe.out W)
  have HW := Lib.hid (fun W => hawserref26_rightRow.calls a12 a13 a14 a3 bw W (by rw [row2, hbw.out]))
  clear hd h80
  obtain ⟨e9, HE⟩ : ∃ q, RowKit.Hid ((a9 != -1) = q) := ⟨_, Lib.hid rfl⟩
  go_enter Try.func43, Try.ntmps43
  go_wp2_with (first
    | ((with_reducible refine gate_dst (N := 1) rfl ?_); refine box_event rfl (N := 1) rfl (cs := #[.int .i64 a0, .int .i64 a1, .bool a2, .string a3, .int .i64 a4, .string a5, .string a6, .int .i64 a7, .int .i64 a8, .int .i64 a9, .int .i64 a10, .int .i64 a11, .string a12, .string a13, .int .i64 a14, .bool a15]) (t := 39) (by first | (go_simp; done) | (go_simp; rfl)) ?_; intro B e_ W1 h1 b1; have G := Lib.hid (And.intro h1 b1); clear e_ h1 b1; obtain ⟨z0, z1, z2, z3, z4, z5, z6, z7, z8, z9, z10, z11, z12, z13, z14, z15⟩ := cells16 G.out.1)
    | ((with_reducible refine gate_dst (N := 29) rfl ?_); (try (refine gate_guard (by rfl) ?_; dsimp only)); refine neqi_event rfl rfl rfl rfl HE.out ?_)
    | (go_at_call 81; (with_reducible refine (HP.out _).mono ?_); rintro e_ W_ ⟨rfl, hb⟩; replace G := Lib.hid (And.intro (blk_below G.out.1 hb) (below_step G.out.2 hb)); clear z0 z1 z2 z3 z4 z5 z6 z7 z8 z9 z10 z11 z12 z13 z14 z15; obtain ⟨z0, z1, z2, z3, z4, z5, z6, z7, z8, z9, z10, z11, z12, z13, z14, z15⟩ := cells16 G.out.1; clear hb)
    | (go_at_call 80; (with_reducible refine (HD.out _).mono ?_); rintro e_ W_ ⟨rfl, hb⟩; replace G := Lib.hid (And.intro (blk_below G.out.1 hb) (below_step G.out.2 hb)); clear z0 z1 z2 z3 z4 z5 z6 z7 z8 z9 z10 z11 z12 z13 z14 z15; obtain ⟨z0, z1, z2, z3, z4, z5, z6, z7, z8, z9, z10, z11, z12, z13, z14, z15⟩ := cells16 G.out.1; clear hb)
    | ((with_reducible refine gate_dst (N := 62) rfl ?_); (try (refine gate_guard (by rfl) ?_; dsimp only)); refine neq_event rfl rfl rfl rfl (by kernel_rfl) (rowz_eq hzw.out) ?_)
    | ((with_reducible refine gate_dst (N := 64) rfl ?_); (try (refine gate_guard (by rfl) ?_; dsimp only)); refine wpList_load_row rfl 39 (.tmp 1) rfl B rfl 39 _ (0, 0) _ G.out.1 Try.underlying39 rfl (by kernel_rfl) ?_)
    | (go_at_call 44; (with_reducible refine (ranswered_any _ _ _ _ _ _ _ _ _ _ _ _ _ _ _ _ _ HE.out _).mono ?_); rintro e_ W_ ⟨rfl, hb⟩; replace G := Lib.hid (And.intro (blk_below G.out.1 hb) (below_step G.out.2 hb)); clear z0 z1 z2 z3 z4 z5 z6 z7 z8 z9 z10 z11 z12 z13 z14 z15; obtain ⟨z0, z1, z2, z3, z4, z5, z6, z7, z8, z9, z10, z11, z12, z13, z14, z15⟩ := cells16 G.out.1; clear hb)
    | (go_at_call 44; (with_reducible refine (ranswered_any _ _ _ _ _ _ _ _ _ (-1) _ _ _ _ _ _ false rfl _).mono ?_); rintro e_ W_ ⟨rfl, hb⟩; replace G := Lib.hid (And.intro (blk_below G.out.1 hb) (below_step G.out.2 hb)); clear z0 z1 z2 z3 z4 z5 z6 z7 z8 z9 z10 z11 z12 z13 z14 z15; obtain ⟨z0, z1, z2, z3, z4, z5, z6, z7, z8, z9, z10, z11, z12, z13, z14, z15⟩ := cells16 G.out.1; clear hb)
    | ((with_reducible refine gate_dst (N := 70) rfl ?_); (try (refine gate_guard (by rfl) ?_; dsimp only)); refine eql_event rfl rfl rfl rfl (by kernel_rfl) (resz_eq hzr.out) ?_)
    | (go_at_call 82; (with_reducible refine (HR.out _).mono ?_); rintro e_ W_ ⟨rfl, hb⟩; replace G := Lib.hid (And.intro (blk_below G.out.1 hb) (below_step G.out.2 hb)); clear z0 z1 z2 z3 z4 z5 z6 z7 z8 z9 z10 z11 z12 z13 z14 z15; obtain ⟨z0, z1, z2, z3, z4, z5, z6, z7, z8, z9, z10, z11, z12, z13, z14, z15⟩ := cells16 G.out.1; clear hb)
    | (go_at_call 83; (with_reducible refine (HU.out _).mono ?_); rintro e_ W_ ⟨rfl, hdr⟩; have hb := hdr.below; clear hdr; replace G := Lib.hid (And.intro (blk_below G.out.1 hb) (below_step G.out.2 hb)); clear z0 z1 z2 z3 z4 z5 z6 z7 z8 z9 z10 z11 z12 z13 z14 z15; obtain ⟨z0, z1, z2, z3, z4, z5, z6, z7, z8, z9, z10, z11, z12, z13, z14, z15⟩ := cells16 G.out.1; clear hb)
    | ((with_reducible refine gate_dst (N := 84) rfl ?_); (try (refine gate_guard (by rfl) ?_; dsimp only)); refine neq_event rfl rfl rfl rfl (by kernel_rfl) (opz_eq hzo.out) ?_)
    | ((with_reducible refine gate_dst (N := 90) rfl ?_); (try (refine gate_guard (by rfl) ?_; dsimp only)); refine neq_event rfl rfl rfl rfl (by kernel_rfl) (resz_eq hzr.out) ?_)
    | ((with_reducible refine gate_dst (N := 96) rfl ?_); (try (refine gate_guard (by rfl) ?_; dsimp only)); refine wpList_load_row rfl 39 (.tmp 1) rfl B rfl 39 _ (0, 0) _ G.out.1 Try.underlying39 rfl (by kernel_rfl) ?_)
    | ((with_reducible refine gate_dst (N := 107) rfl ?_); (try (refine gate_guard (by rfl) ?_; dsimp only)); refine eql_event rfl rfl rfl rfl (by kernel_rfl) (rowz_eq hzw.out) ?_)
    | (go_at_call 84; (with_reducible refine (HW.out _).mono ?_); rintro e_ W_ ⟨rfl, hb⟩; replace G := Lib.hid (And.intro (blk_below G.out.1 hb) (below_step G.out.2 hb)); clear z0 z1 z2 z3 z4 z5 z6 z7 z8 z9 z10 z11 z12 z13 z14 z15; obtain ⟨z0, z1, z2, z3, z4, z5, z6, z7, z8, z9, z10, z11, z12, z13, z14, z15⟩ := cells16 G.out.1; clear hb)
    | (fail))
  all_goals (go_ret; refine ⟨ret_b ?_, G.out.2⟩; clear HD HP HU HR HW G hu32 hu35 hu37 z0 z1 z2 z3 z4 z5 z6 z7 z8 z9 z10 z11 z12 z13 z14 z15; first | (have q0 := hzo.out; have q1 := hzr.out; have q2 := hzw.out; have q3 := hbu.out; have q4 := hbe.out; have q5 := hbw.out; have q6 := hbo.out; have q7 := HE.out; have q8 := H80.out; unfold rowB at q5; unfold mayB16 readB updB; simp_all [wiB] <;> first | omega | grind) | (have r1 : decide (a8 < 0) = false := decide_eq_false (by omega); have r2 : decide (a9 ≤ a8) = false := decide_eq_false (by grind); have r3 : (a9 == -1) = false := (by grind); have q0 := hzo.out; have q1 := hzr.out; have q2 := hzw.out; have q3 := hbu.out; have q4 := hbe.out; have q5 := hbw.out; have q6 := hbo.out; have q7 := HE.out; have q8 := H80.out; unfold rowB at q5; unfold mayB16 readB updB; rw [r1, r2, r3]; simp_all [wiB]))
end Go.Proofs.Ytbakmkoppieelaa.PLinearChecks

/- What is proved: what both Keys answer, of any calls. -/
import Derived.Test.YtbakmkoppieelaaLSof
namespace Go.Proofs.Ytbakmkoppieelaa.PLinearChecks
open Go.RowKit Go.Proofs.YtbakmkoppieelaaW.PrintWords Go.Proofs.YtbakmkoppieelaaW.PrintLast Go.Proofs.YtbakmkoppieelaaW.PrintMore
set_option linter.unusedVariables false
set_option linter.unusedSimpArgs false
/-- The calls that name a key. -/
def keyL (s : ByteArray) (l : List S39) : List S39 := l.filter fun c => c.f3.toList == s.toList
theorem key_take {s : ByteArray} {l : List S39} {i : Int} (i0 : 0 ≤ i) (i1 : i < l.length) : keyL s (l.take (i + 1).toNat) = keyL s (l.take i.toNat) ++ (if ((rd_T39 l i).f3.toList == s.toList) = true then [rd_T39 l i] else []) := by
  have e : rd_T39 l i = l[i.toNat]'(by omega) := by
    unfold rd_T39
    rw [List.getD_eq_getElem?_getD, List.getElem?_eq_getElem (by omega)]
    rfl
  rw [show (i + 1).toNat = i.toNat + 1 by omega, List.take_succ_eq_append_getElem (by omega), keyL, List.filter_append, ← e]
  unfold keyL
  cases h : ((rd_T39 l i).f3.toList == s.toList) <;> simp [List.filter_cons, h]
theorem key_len (s : ByteArray) (l : List S39) (k : Nat) : (keyL s (l.take k)).length ≤ k := Nat.le_trans (List.length_filter_le _ _) (List.length_take_le _ _)
def KeyTo (w : World) (l : List S39) (s : ByteArray) (e : Ending) (w' : World) : Prop := ∃ v, e = .returned v ∧ Kd.R k39 39 w' w.heap.size (fun _ => True) v (keyL s l) ∧ Below w.heap.size w w'
set_option maxRecDepth 100000 in
set_option maxHeartbeats 16000000 in
theorem key_any (w : World) (A : Option Addr) (c : Nat) (l : List S39) (s : ByteArray) (hr : Kd.C k39 w A l.length l) (hc : l.length ≤ c) (hn : l.length * 168 ≤ 140737488351232) :
    Calls Try.prog 24 #[.slice A l.length c, .string s] w fun e w' => ∃ v, e = .returned v ∧ Kd.R k39 39 w' w.heap.size (fun _ => True) v (keyL s l) ∧ Below w.heap.size w w' := by
  have HR := Lib.hid hr
  have HN := Lib.hid hn
  clear hr hn
  suffices h : Calls Try.prog 24 #[.slice A l.length c, .string s] w fun e w' => KeyTo w l s e w' from h
  go_enter Try.func24, Try.ntmps24
  go_wp2
  go_loopw [5, 10] (fun v5 vi wr => ∃ i : Int, vi = .int .i64 i ∧ (0 ≤ i ∧ i ≤ (l.length : Int)) ∧ RowKit.Hid (Kd.R k39 39 wr w.heap.size (fun _ => True) v5 (keyL s (l.take i.toNat)) ∧ Below w.heap.size w wr)) (fun _ vi _ => ((l.length : Int) - intOf vi).toNat)
  case atStart => exact ⟨0, rfl, ⟨by omega, by omega⟩, Lib.hid ⟨Kd.R_nil _ _ _ _ _, Below.refl _ _⟩⟩
  case round =>
    obtain ⟨i, rfl, ⟨i0, i1⟩, HRB⟩ := hrel
    by_cases hlt : i < (l.length : Int)
    · have c1 : decide (i < (l.length : Int)) = true := decide_eq_true hlt
      have PI := Lib.hid (show 0 ≤ i ∧ i < (l.length : Int) ∧ i.toNat < l.length by omega)
      have pI := eq_true i0
      have qI := eq_true hlt
      have wi : wrap64 (i + 1) = i + 1 := by have h2 := HN.out; unfold wrap64; omega
      have wi2 : IntKind.i64.wrap (i + 1) = i + 1 := (i64_w _).trans wi
      have RV := Lib.hid HRB.out.1
      have HB := Lib.hid HRB.out.2
      obtain ⟨ad, eA, m0, m1, m2, m3, -⟩ := at_T39 (Kd.C_below HR.out HB.out) i i0 hlt
      cases eA
      clear m0 m1 m2
      have RK := Lib.hid (row39' (Kd.C_below HR.out HB.out) i i0 hlt)
      have HTK := Lib.hid (key_take (s := s) i0 hlt)
      have HLN := Lib.hid (key_len s l i.toNat)
      clear i0 i1 hlt HRB
      cases hk : ((rd_T39 l i).f3.toList == s.toList) with
      | true =>
        have HX := Lib.hid (show keyL s (l.take (i + 1).toNat) = keyL s (l.take i.toNat) ++ [rd_T39 l i] by rw [HTK.out, if_pos hk])
        go_wp2_with (first
          | ((with_reducible refine gate_dst (N := 13) rfl ?_); refine wpList_load_p rfl 39 (.tmp 12) rfl (ad.add (i.toNat * 16)) rfl [.int .i64 (rd_T39 l i).f0, .int .i64 (rd_T39 l i).f1, .bool (rd_T39 l i).f2, .string (rd_T39 l i).f3, .int .i64 (rd_T39 l i).f4.f0, .string (rd_T39 l i).f4.f1, .string (rd_T39 l i).f4.f2, .int .i64 (rd_T39 l i).f4.f3, .int .i64 (rd_T39 l i).f5, .int .i64 (rd_T39 l i).f6, .int .i64 (rd_T39 l i).f7.f0, .int .i64 (rd_T39 l i).f7.f1, .string (rd_T39 l i).f8.f0, .string (rd_T39 l i).f8.f1, .int .i64 (rd_T39 l i).f8.f2, .bool (rd_T39 l i).f9] _ RK.out Try.underlying39 rfl (by kernel_rfl) ?_)
          | ((with_reducible refine gate_dst (N := 7) rfl ?_); refine box_event rfl (N := 7) rfl (cs := #[.int .i64 0, .int .i64 0, .bool false, .string ⟨#[]⟩, .int .i64 0, .string ⟨#[]⟩, .string ⟨#[]⟩, .int .i64 0, .int .i64 0, .int .i64 0, .int .i64 0, .int .i64 0, .string ⟨#[]⟩, .string ⟨#[]⟩, .int .i64 0, .bool false]) (t := 39) (by first | (go_simp; done) | (go_simp; rfl)) ?_; intro g7 e7 w7 h7 b7; have N7 := Lib.hid (Nat.le_trans HB.out.size (Nat.le_of_eq e7.symm)); have V7 := Lib.hid (show some g7 ≠ Value.ownBlock u5 from fun e => by have := (Kd.R_lt RV.out _ e.symm); omega); replace HB := Lib.hid (below_step HB.out b7); replace RV := Lib.hid (Kd.R_below RV.out b7); have B7 := Lib.hid h7; clear h7 b7 e7)
          | ((with_reducible refine gate_store (t := 39) (p := 7) rfl ?_); refine store_row_event rfl 39 (.tmp 7) (.tmp 13) rfl g7 #[.int .i64 (rd_T39 l i).f0, .int .i64 (rd_T39 l i).f1, .bool (rd_T39 l i).f2, .string (rd_T39 l i).f3, .int .i64 (rd_T39 l i).f4.f0, .string (rd_T39 l i).f4.f1, .string (rd_T39 l i).f4.f2, .int .i64 (rd_T39 l i).f4.f3, .int .i64 (rd_T39 l i).f5, .int .i64 (rd_T39 l i).f6, .int .i64 (rd_T39 l i).f7.f0, .int .i64 (rd_T39 l i).f7.f1, .string (rd_T39 l i).f8.f0, .string (rd_T39 l i).f8.f1, .int .i64 (rd_T39 l i).f8.f2, .bool (rd_T39 l i).f9] rfl rfl 39 _ B7.out (by kernel_rfl) rfl (by simp [Value.oneCell']) ?_; intro v7 h_ q_; replace HB := Lib.hid (below_of_grown HB.out q_ N7.out HB.out.size); replace RV := Lib.hid (Kd.R_grown1 RV.out rfl q_ V7.out); replace B7 := Lib.hid h_; clear h_ q_)
          | ((with_reducible refine gate_dst (N := 15) rfl ?_); refine wpList_load_cell rfl 9 (.tmp 14) rfl g7 3 rfl _ _ B7.out (.string (rd_T39 l i).f3) rfl _ Try.underlying9 rfl ?_)
          | ((with_reducible refine gate_dst (N := 19) rfl ?_); refine wpList_load_row rfl 39 (.tmp 7) rfl g7 rfl 39 #[.int .i64 (rd_T39 l i).f0, .int .i64 (rd_T39 l i).f1, .bool (rd_T39 l i).f2, .string (rd_T39 l i).f3, .int .i64 (rd_T39 l i).f4.f0, .string (rd_T39 l i).f4.f1, .string (rd_T39 l i).f4.f2, .int .i64 (rd_T39 l i).f4.f3, .int .i64 (rd_T39 l i).f5, .int .i64 (rd_T39 l i).f6, .int .i64 (rd_T39 l i).f7.f0, .int .i64 (rd_T39 l i).f7.f1, .string (rd_T39 l i).f8.f0, .string (rd_T39 l i).f8.f1, .int .i64 (rd_T39 l i).f8.f2, .bool (rd_T39 l i).f9] (0, 0) _ B7.out Try.underlying39 rfl (by kernel_rfl) ?_)
          | (at_builtin; refine Kd.R_append_rows k39 (Rr := k39.K (World.alloc v7 (.cells #[.int .i64 (rd_T39 l i).f0, .int .i64 (rd_T39 l i).f1, .bool (rd_T39 l i).f2, .string (rd_T39 l i).f3, .int .i64 (rd_T39 l i).f4.f0, .string (rd_T39 l i).f4.f1, .string (rd_T39 l i).f4.f2, .int .i64 (rd_T39 l i).f4.f3, .int .i64 (rd_T39 l i).f5, .int .i64 (rd_T39 l i).f6, .int .i64 (rd_T39 l i).f7.f0, .int .i64 (rd_T39 l i).f7.f1, .string (rd_T39 l i).f8.f0, .string (rd_T39 l i).f8.f1, .int .i64 (rd_T39 l i).f8.f2, .bool (rd_T39 l i).f9] 39))) (w0 := w) w.heap.size rfl (.tmp 18) (.tmp 20) 22 39 (.agg #[.int .i64 0, .int .i64 0, .bool false, .string ⟨#[]⟩, .int .i64 0, .string ⟨#[]⟩, .string ⟨#[]⟩, .int .i64 0, .int .i64 0, .int .i64 0, .int .i64 0, .int .i64 0, .string ⟨#[]⟩, .string ⟨#[]⟩, .int .i64 0, .bool false]) 168 rfl Try.underlying22 info39 rfl (by decide) (by decide) u5 (keyL s (l.take i.toNat)) [rd_T39 l i] (some ⟨World.heap v7 |>.size, 0, none⟩) 1 1 (fun _ => True) (fun _ => False) rfl rfl (Kd.R_alloc RV.out _) (one_C v7 (rd_T39 l i)) (fun x cs h => by rw [k39_open h]; exact k39_mkM _ _ _ x) (fun _ h => h.elim) (fun _ _ => trivial) (HB.out.alloc HB.out.size _) (by have := HB.out.size; simp; omega) (by have h1 := HN.out; have h2 := PI.out; have h3 := HLN.out; have h4 : ([rd_T39 l i] : List S39).length = 1 := rfl; omega) ?_; intro v2 w2 hR2 hb2 hg2 hat2; have R2 := Lib.hid hR2; have HB2 := Lib.hid hb2; clear hR2 hb2 hg2 hat2)
          | (fail))
        go_roundw
        case rel => exact ⟨i + 1, by first | rfl | go_num, ⟨by have := PI.out; omega, by have := PI.out; omega⟩, Lib.hid ⟨by rw [HX.out]; exact R2.out, HB2.out⟩⟩
        case measure => have := PI.out; simp [intOf]; omega
      | false =>
        have HX := Lib.hid (show keyL s (l.take (i + 1).toNat) = keyL s (l.take i.toNat) by rw [HTK.out, if_neg (by rw [hk]; decide), List.append_nil])
        go_wp2_with (first
          | ((with_reducible refine gate_dst (N := 13) rfl ?_); refine wpList_load_p rfl 39 (.tmp 12) rfl (ad.add (i.toNat * 16)) rfl [.int .i64 (rd_T39 l i).f0, .int .i64 (rd_T39 l i).f1, .bool (rd_T39 l i).f2, .string (rd_T39 l i).f3, .int .i64 (rd_T39 l i).f4.f0, .string (rd_T39 l i).f4.f1, .string (rd_T39 l i).f4.f2, .int .i64 (rd_T39 l i).f4.f3, .int .i64 (rd_T39 l i).f5, .int .i64 (rd_T39 l i).f6, .int .i64 (rd_T39 l i).f7.f0, .int .i64 (rd_T39 l i).f7.f1, .string (rd_T39 l i).f8.f0, .string (rd_T39 l i).f8.f1, .int .i64 (rd_T39 l i).f8.f2, .bool (rd_T39 l i).f9] _ RK.out Try.underlying39 rfl (by kernel_rfl) ?_)
          | ((with_reducible refine gate_dst (N := 7) rfl ?_); refine box_event rfl (N := 7) rfl (cs := #[.int .i64 0, .int .i64 0, .bool false, .string ⟨#[]⟩, .int .i64 0, .string ⟨#[]⟩, .string ⟨#[]⟩, .int .i64 0, .int .i64 0, .int .i64 0, .int .i64 0, .int .i64 0, .string ⟨#[]⟩, .string ⟨#[]⟩, .int .i64 0, .bool false]) (t := 39) (by first | (go_simp; done) | (go_simp; rfl)) ?_; intro g7 e7 w7 h7 b7; have N7 := Lib.hid (Nat.le_trans HB.out.size (Nat.le_of_eq e7.symm)); have V7 := Lib.hid (show some g7 ≠ Value.ownBlock u5 from fun e => by have := (Kd.R_lt RV.out _ e.symm); omega); replace HB := Lib.hid (below_step HB.out b7); replace RV := Lib.hid (Kd.R_below RV.out b7); have B7 := Lib.hid h7; clear h7 b7 e7)
          | ((with_reducible refine gate_store (t := 39) (p := 7) rfl ?_); refine store_row_event rfl 39 (.tmp 7) (.tmp 13) rfl g7 #[.int .i64 (rd_T39 l i).f0, .int .i64 (rd_T39 l i).f1, .bool (rd_T39 l i).f2, .string (rd_T39 l i).f3, .int .i64 (rd_T39 l i).f4.f0, .string (rd_T39 l i).f4.f1, .string (rd_T39 l i).f4.f2, .int .i64 (rd_T39 l i).f4.f3, .int .i64 (rd_T39 l i).f5, .int .i64 (rd_T39 l i).f6, .int .i64 (rd_T39 l i).f7.f0, .int .i64 (rd_T39 l i).f7.f1, .string (rd_T39 l i).f8.f0, .string (rd_T39 l i).f8.f1, .int .i64 (rd_T39 l i).f8.f2, .bool (rd_T39 l i).f9] rfl rfl 39 _ B7.out (by kernel_rfl) rfl (by simp [Value.oneCell']) ?_; intro v7 h_ q_; replace HB := Lib.hid (below_of_grown HB.out q_ N7.out HB.out.size); replace RV := Lib.hid (Kd.R_grown1 RV.out rfl q_ V7.out); replace B7 := Lib.hid h_; clear h_ q_)
          | ((with_reducible refine gate_dst (N := 15) rfl ?_); refine wpList_load_cell rfl 9 (.tmp 14) rfl g7 3 rfl _ _ B7.out (.string (rd_T39 l i).f3) rfl _ Try.underlying9 rfl ?_)
          | ((with_reducible refine gate_dst (N := 19) rfl ?_); refine wpList_load_row rfl 39 (.tmp 7) rfl g7 rfl 39 #[.int .i64 (rd_T39 l i).f0, .int .i64 (rd_T39 l i).f1, .bool (rd_T39 l i).f2, .string (rd_T39 l i).f3, .int .i64 (rd_T39 l i).f4.f0, .string (rd_T39 l i).f4.f1, .string (rd_T39 l i).f4.f2, .int .i64 (rd_T39 l i).f4.f3, .int .i64 (rd_T39 l i).f5, .int .i64 (rd_T39 l i).f6, .int .i64 (rd_T39 l i).f7.f0, .int .i64 (rd_T39 l i).f7.f1, .string (rd_T39 l i).f8.f0, .string (rd_T39 l i).f8.f1, .int .i64 (rd_T39 l i).f8.f2, .bool (rd_T39 l i).f9] (0, 0) _ B7.out Try.underlying39 rfl (by kernel_rfl) ?_)
          | (fail))
        go_roundw
        case rel => exact ⟨i + 1, by first | rfl | go_num, ⟨by have := PI.out; omega, by have := PI.out; omega⟩, Lib.hid ⟨by rw [HX.out]; exact RV.out, HB.out⟩⟩
        case measure => have := PI.out; simp [intOf]; omega
    · have hnl : decide (i < (l.length : Int)) = false := decide_eq_false hlt
      have ei : i = (l.length : Int) := by omega
      subst ei
      have HFR := Lib.hid (show Kd.R k39 39 wr w.heap.size (fun _ => True) u5 (keyL s l) by have h := HRB.out.1; rw [Int.toNat_natCast, List.take_length] at h; exact h)
      have HB := Lib.hid HRB.out.2
      clear i0 i1 hlt HRB
      go_wp2
      go_ret
      exact ⟨_, rfl, HFR.out, HB.out⟩
set_option maxRecDepth 100000 in
set_option maxHeartbeats 16000000 in
theorem rkey_any (w : World) (A : Option Addr) (c : Nat) (l : List S39) (s : ByteArray) (hr : Kd.C k39 w A l.length l) (hc : l.length ≤ c) (hn : l.length * 168 ≤ 140737488351232) :
    Calls Try.prog 26 #[.slice A l.length c, .string s] w fun e w' => ∃ v, e = .returned v ∧ Kd.R k39 39 w' w.heap.size (fun _ => True) v (keyL s l) ∧ Below w.heap.size w w' := by
  have HR := Lib.hid hr
  have HN := Lib.hid hn
  clear hr hn
  suffices h : Calls Try.prog 26 #[.slice A l.length c, .string s] w fun e w' => KeyTo w l s e w' from h
  go_enter Try.func26, Try.ntmps26
  go_wp2
  go_loopw [5, 6] (fun v5 vi wr => ∃ i : Int, vi = .int .i64 i ∧ (0 ≤ i ∧ i ≤ (l.length : Int)) ∧ RowKit.Hid (Kd.R k39 39 wr w.heap.size (fun _ => True) v5 (keyL s (l.take i.toNat)) ∧ Below w.heap.size w wr)) (fun _ vi _ => ((l.length : Int) - intOf vi).toNat)
  case atStart => exact ⟨0, rfl, ⟨by omega, by omega⟩, Lib.hid ⟨Kd.R_nil _ _ _ _ _, Below.refl _ _⟩⟩
  case round =>
    obtain ⟨i, rfl, ⟨i0, i1⟩, HRB⟩ := hrel
    by_cases hlt : i < (l.length : Int)
    · have c1 : decide (i < (l.length : Int)) = true := decide_eq_true hlt
      have PI := Lib.hid (show 0 ≤ i ∧ i < (l.length : Int) ∧ i.toNat < l.length by omega)
      have pI := eq_true i0
      have qI := eq_true hlt
      have wi : wrap64 (i + 1) = i + 1 := by have h2 := HN.out; unfold wrap64; omega
      have wi2 : IntKind.i64.wrap (i + 1) = i + 1 := (i64_w _).trans wi
      have RV := Lib.hid HRB.out.1
      have HB := Lib.hid HRB.out.2
      obtain ⟨ad, eA, m0, m1, m2, m3, -⟩ := at_T39 (Kd.C_below HR.out HB.out) i i0 hlt
      cases eA
      clear m0 m1 m2
      have RK := Lib.hid (row39' (Kd.C_below HR.out HB.out) i i0 hlt)
      have HTK := Lib.hid (key_take (s := s) i0 hlt)
      have HLN := Lib.hid (key_len s l i.toNat)
      clear i0 i1 hlt HRB
      cases hk : ((rd_T39 l i).f3.toList == s.toList) with
      | true =>
        have HX := Lib.hid (show keyL s (l.take (i + 1).toNat) = keyL s (l.take i.toNat) ++ [rd_T39 l i] by rw [HTK.out, if_pos hk])
        go_wp2_with (first
          | ((with_reducible refine gate_dst (N := 24) rfl ?_); refine wpList_load_p rfl 39 (.tmp 23) rfl (ad.add (i.toNat * 16)) rfl [.int .i64 (rd_T39 l i).f0, .int .i64 (rd_T39 l i).f1, .bool (rd_T39 l i).f2, .string (rd_T39 l i).f3, .int .i64 (rd_T39 l i).f4.f0, .string (rd_T39 l i).f4.f1, .string (rd_T39 l i).f4.f2, .int .i64 (rd_T39 l i).f4.f3, .int .i64 (rd_T39 l i).f5, .int .i64 (rd_T39 l i).f6, .int .i64 (rd_T39 l i).f7.f0, .int .i64 (rd_T39 l i).f7.f1, .string (rd_T39 l i).f8.f0, .string (rd_T39 l i).f8.f1, .int .i64 (rd_T39 l i).f8.f2, .bool (rd_T39 l i).f9] _ RK.out Try.underlying39 rfl (by kernel_rfl) ?_)
          | (at_builtin; refine Kd.R_append_rows k39 (Rr := k39.K (World.alloc wr (.cells #[.int .i64 (rd_T39 l i).f0, .int .i64 (rd_T39 l i).f1, .bool (rd_T39 l i).f2, .string (rd_T39 l i).f3, .int .i64 (rd_T39 l i).f4.f0, .string (rd_T39 l i).f4.f1, .string (rd_T39 l i).f4.f2, .int .i64 (rd_T39 l i).f4.f3, .int .i64 (rd_T39 l i).f5, .int .i64 (rd_T39 l i).f6, .int .i64 (rd_T39 l i).f7.f0, .int .i64 (rd_T39 l i).f7.f1, .string (rd_T39 l i).f8.f0, .string (rd_T39 l i).f8.f1, .int .i64 (rd_T39 l i).f8.f2, .bool (rd_T39 l i).f9] 39))) (w0 := w) w.heap.size rfl (.tmp 20) (.tmp 25) 22 39 (.agg #[.int .i64 0, .int .i64 0, .bool false, .string ⟨#[]⟩, .int .i64 0, .string ⟨#[]⟩, .string ⟨#[]⟩, .int .i64 0, .int .i64 0, .int .i64 0, .int .i64 0, .int .i64 0, .string ⟨#[]⟩, .string ⟨#[]⟩, .int .i64 0, .bool false]) 168 rfl Try.underlying22 info39 rfl (by decide) (by decide) u5 (keyL s (l.take i.toNat)) [rd_T39 l i] (some ⟨World.heap wr |>.size, 0, none⟩) 1 1 (fun _ => True) (fun _ => False) rfl rfl (Kd.R_alloc RV.out _) (one_C wr (rd_T39 l i)) (fun x cs h => by rw [k39_open h]; exact k39_mkM _ _ _ x) (fun _ h => h.elim) (fun _ _ => trivial) (HB.out.alloc HB.out.size _) (by have := HB.out.size; simp; omega) (by have h1 := HN.out; have h2 := PI.out; have h3 := HLN.out; have h4 : ([rd_T39 l i] : List S39).length = 1 := rfl; omega) ?_; intro v2 w2 hR2 hb2 hg2 hat2; have R2 := Lib.hid hR2; have HB2 := Lib.hid hb2; clear hR2 hb2 hg2 hat2)
          | (fail))
        go_roundw
        case rel => exact ⟨i + 1, by first | rfl | go_num, ⟨by have := PI.out; omega, by have := PI.out; omega⟩, Lib.hid ⟨by rw [HX.out]; exact R2.out, HB2.out⟩⟩
        case measure => have := PI.out; simp [intOf]; omega
      | false =>
        have HX := Lib.hid (show keyL s (l.take (i + 1).toNat) = keyL s (l.take i.toNat) by rw [HTK.out, if_neg (by rw [hk]; decide), List.append_nil])
        go_wp2_with (first
          | ((with_reducible refine gate_dst (N := 24) rfl ?_); refine wpList_load_p rfl 39 (.tmp 23) rfl (ad.add (i.toNat * 16)) rfl [.int .i64 (rd_T39 l i).f0, .int .i64 (rd_T39 l i).f1, .bool (rd_T39 l i).f2, .string (rd_T39 l i).f3, .int .i64 (rd_T39 l i).f4.f0, .string (rd_T39 l i).f4.f1, .string (rd_T39 l i).f4.f2, .int .i64 (rd_T39 l i).f4.f3, .int .i64 (rd_T39 l i).f5, .int .i64 (rd_T39 l i).f6, .int .i64 (rd_T39 l i).f7.f0, .int .i64 (rd_T39 l i).f7.f1, .string (rd_T39 l i).f8.f0, .string (rd_T39 l i).f8.f1, .int .i64 (rd_T39 l i).f8.f2, .bool (rd_T39 l i).f9] _ RK.out Try.underlying39 rfl (by kernel_rfl) ?_)
          | (fail))
        go_roundw
        case rel => exact ⟨i + 1, by first | rfl | go_num, ⟨by have := PI.out; omega, by have := PI.out; omega⟩, Lib.hid ⟨by rw [HX.out]; exact RV.out, HB.out⟩⟩
        case measure => have := PI.out; simp [intOf]; omega
    · have hnl : decide (i < (l.length : Int)) = false := decide_eq_false hlt
      have ei : i = (l.length : Int) := by omega
      subst ei
      have HFR := Lib.hid (show Kd.R k39 39 wr w.heap.size (fun _ => True) u5 (keyL s l) by have h := HRB.out.1; rw [Int.toNat_natCast, List.take_length] at h; exact h)
      have HB := Lib.hid HRB.out.2
      clear i0 i1 hlt HRB
      go_wp2
      go_ret
      exact ⟨_, rfl, HFR.out, HB.out⟩
end Go.Proofs.Ytbakmkoppieelaa.PLinearChecks

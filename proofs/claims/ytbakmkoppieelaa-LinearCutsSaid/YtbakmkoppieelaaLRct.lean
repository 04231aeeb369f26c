/- What is proved: what the reference's Cut answers; both cuts are the same where calls begin one behind the other. -/
import Derived.Test.YtbakmkoppieelaaLKey
namespace Go.Proofs.Ytbakmkoppieelaa.PLinearChecks
open Go.RowKit Go.Proofs.YtbakmkoppieelaaW.PrintWords Go.Proofs.YtbakmkoppieelaaW.PrintLast Go.Proofs.YtbakmkoppieelaaW.PrintMore
set_option linter.unusedVariables false
set_option linter.unusedSimpArgs false
/-- The reference's cut. -/
def cutRR (row : Int) (l : List S39) : List S39 := (l.filter fun c => decide (c.f5 < row)).map (cutC row)
theorem take_rcut {row : Int} {l : List S39} {i : Int} (i0 : 0 ≤ i) (i1 : i < l.length) : cutRR row (l.take (i + 1).toNat) = cutRR row (l.take i.toNat) ++ (if (rd_T39 l i).f5 < row then [cutC row (rd_T39 l i)] else []) := by
  have e : rd_T39 l i = l[i.toNat]'(by omega) := by
    unfold rd_T39
    rw [List.getD_eq_getElem?_getD, List.getElem?_eq_getElem (by omega)]
    rfl
  rw [show (i + 1).toNat = i.toNat + 1 by omega, List.take_succ_eq_append_getElem (by omega), cutRR, List.filter_append, List.map_append, ← e]
  unfold cutRR
  by_cases h : (rd_T39 l i).f5 < row <;> simp [List.filter_cons, h]
theorem rcut_len (row : Int) (l : List S39) (k : Nat) : (cutRR row (l.take k)).length ≤ k := by
  unfold cutRR
  rw [List.length_map]
  exact Nat.le_trans (List.length_filter_le _ _) (List.length_take_le _ _)
/-- Where calls begin one behind the other, both cuts are the same. -/
theorem cut_both (row : Int) : ∀ l : List S39, (∀ i k, i < k → k < l.length → (cl l i).f5 < (cl l k).f5) → cutT row l = cutRR row l := by
  intro l
  induction l with
  | nil => intro _; rfl
  | cons c t ih =>
    intro h
    have ht := ih (fun i k hik hk => h (i + 1) (k + 1) (by omega) (by simpa using hk))
    rw [cutT]
    unfold cutRR at ht ⊢
    by_cases hc : c.f5 ≥ row
    · rw [if_pos hc, List.filter_cons_of_neg (by simpa using hc)]
      have hz : t.filter (fun c => decide (c.f5 < row)) = [] := by
        rw [List.filter_eq_nil_iff]
        intro x hx
        obtain ⟨k, hk, rfl⟩ := List.getElem_of_mem hx
        have h2 : c.f5 < (cl (c :: t) (k + 1)).f5 := h 0 (k + 1) (by omega) (by simpa using hk)
        have h3 : cl (c :: t) (k + 1) = t[k] := by
          unfold cl
          rw [List.getD_eq_getElem?_getD, List.getElem?_cons_succ, List.getElem?_eq_getElem hk]
          rfl
        rw [h3] at h2
        simp
        omega
      rw [hz]
      rfl
    · rw [if_neg hc, List.filter_cons_of_pos (by simp; omega), List.map_cons, ht]
open Classical in
/-- What the reference's Cut answers. -/
noncomputable def rcutLL (l : List S39) (row : Int) : List S39 := if refF l = 0 then (if row < 0 then [] else cutRR row l) else []
open Classical in
noncomputable def rcutEE (l : List S39) (row : Int) : Int := if refF l = 0 then (if row < 0 then 1 else 0) else 260
def RCutTo (w : World) (l : List S39) (row : Int) (e : Ending) (w' : World) : Prop :=
  ∃ v, e = .returned (.tuple #[v, .int .i64 (rcutEE l row)]) ∧ Kd.R k39 39 w' w.heap.size (fun _ => True) v (rcutLL l row) ∧ Below w.heap.size w w'
set_option maxRecDepth 100000 in
set_option maxHeartbeats 32000000 in
theorem rcut_any (RCHK : ∀ (A : Option Addr) (c : Nat) (l : List S39) (W : World), Kd.C k39 W A l.length l → l.length ≤ c → l.length ≤ 1000000000000 → Calls Try.prog 17 #[.slice A l.length c] W fun e w' => e = .returned (.int .i64 (refF l)) ∧ Below W.heap.size W w') (w : World) (A : Option Addr) (c : Nat) (l : List S39) (row : Int) (hr : Kd.C k39 w A l.length l) (hc : l.length ≤ c) (hn : l.length * 168 ≤ 140737488351232) :
    Calls Try.prog 23 #[.slice A l.length c, .int .i64 row] w fun e w' => RCutTo w l row e w' := by
  have HCHK := Lib.hid (fun r (h : refF l = r) => (show Calls Try.prog 17 #[.slice A l.length c] w (fun e w' => e = .returned (.int .i64 r) ∧ Below w.heap.size w w') from by have h2 := RCHK A c l w hr hc (by omega); rw [h] at h2; exact h2))
  have HR := Lib.hid hr
  have HC := Lib.hid hc
  have HN := Lib.hid hn
  clear hr hc hn RCHK
  rcases ref_two l with he | he
  · have HCH := Lib.hid (HCHK.out 0 he)
    by_cases hrow : row < 0
    · have HE := Lib.hid (And.intro (show rcutLL l row = [] by unfold rcutLL; rw [if_pos he, if_pos hrow]) (show rcutEE l row = 1 by unfold rcutEE; rw [if_pos he, if_pos hrow]))
      have hl1 : decide (row < 0) = true := decide_eq_true hrow
      clear he hrow
      go_enter Try.func23, Try.ntmps23
      go_wp2_with (first
        | (go_at_call 17; (with_reducible refine HCH.out.mono ?_); rintro e_ W_ ⟨rfl, hb⟩; have HB := Lib.hid hb; clear hb)
        | (fail))
      go_ret2
      unfold RCutTo
      rw [HE.out.1, HE.out.2]
      exact ⟨.slice none 0 0, rfl, Kd.R_nil _ _ _ _ _, HB.out⟩
    · have HE := Lib.hid (And.intro (show rcutLL l row = cutRR row l by unfold rcutLL; rw [if_pos he, if_neg hrow]) (show rcutEE l row = 0 by unfold rcutEE; rw [if_pos he, if_neg hrow]))
      have hl1 : decide (row < 0) = false := decide_eq_false hrow
      clear he hrow
      go_enter Try.func23, Try.ntmps23
      go_wp2_with (first
        | (go_at_call 17; (with_reducible refine HCH.out.mono ?_); rintro e_ W_ ⟨rfl, hb⟩; have HB := Lib.hid hb; clear hb)
        | (fail))
      go_loopw [6, 7] (fun v6 v7 wr => ∃ i : Int, v7 = .int .i64 i ∧ (0 ≤ i ∧ i ≤ (l.length : Int)) ∧ RowKit.Hid (Kd.R k39 39 wr w.heap.size (fun _ => True) v6 (cutRR row (l.take i.toNat)) ∧ Below w.heap.size w wr)) (fun _ v7 _ => ((l.length : Int) - intOf v7).toNat)
      case atStart => exact ⟨0, rfl, ⟨by omega, by omega⟩, Lib.hid ⟨Kd.R_nil _ _ _ _ _, HB.out⟩⟩
      case round =>
        clear HB
        obtain ⟨i, rfl, ⟨i0, i1⟩, HRB⟩ := hrel
        by_cases hlt : i < (l.length : Int)
        · have c1 : decide (i < (l.length : Int)) = true := decide_eq_true hlt
          have PI := Lib.hid (show 0 ≤ i ∧ i < (l.length : Int) ∧ i.toNat < l.length by omega)
          have pI := eq_true i0
          have qI := eq_true hlt
          have wi : wrap64 (i + 1) = i + 1 := by have h2 := HN.out; unfold wrap64; omega
          have wi2 : IntKind.i64.wrap (i + 1) = i + 1 := (i64_w _).trans wi
          obtain ⟨ad, eA, RK⟩ := row39 (Kd.C_below HR.out HRB.out.2) i i0 hlt
          cases eA
          have RK := Lib.hid RK
          have RV := Lib.hid HRB.out.1
          have HB := Lib.hid HRB.out.2
          have HTK := Lib.hid (take_rcut (row := row) i0 hlt)
          have HLN := Lib.hid (rcut_len row l i.toNat)
          clear i0 i1 hlt HRB
          by_cases h5 : (rd_T39 l i).f5 ≥ row
          · have h5b : decide ((rd_T39 l i).f5 ≥ row) = true := decide_eq_true h5
            have h5c : decide (row ≤ (rd_T39 l i).f5) = true := decide_eq_true h5
            have HX5 := Lib.hid (show cutRR row (l.take (i + 1).toNat) = cutRR row (l.take i.toNat) by rw [HTK.out, if_neg (by omega), List.append_nil])
            clear h5
            go_wp2_with (first
              | ((with_reducible refine gate_dst (N := 23) rfl ?_); refine wpList_load_p rfl 39 (.tmp 22) rfl (ad.add (i.toNat * 16)) rfl [.int .i64 (rd_T39 l i).f0, .int .i64 (rd_T39 l i).f1, .bool (rd_T39 l i).f2, .string (rd_T39 l i).f3, .int .i64 (rd_T39 l i).f4.f0, .string (rd_T39 l i).f4.f1, .string (rd_T39 l i).f4.f2, .int .i64 (rd_T39 l i).f4.f3, .int .i64 (rd_T39 l i).f5, .int .i64 (rd_T39 l i).f6, .int .i64 (rd_T39 l i).f7.f0, .int .i64 (rd_T39 l i).f7.f1, .string (rd_T39 l i).f8.f0, .string (rd_T39 l i).f8.f1, .int .i64 (rd_T39 l i).f8.f2, .bool (rd_T39 l i).f9] _ RK.out Try.underlying39 rfl (by kernel_rfl) ?_)
              | ((with_reducible refine gate_dst (N := 8) rfl ?_); refine box_event rfl (N := 8) rfl (cs := #[.int .i64 0, .int .i64 0, .bool false, .string ⟨#[]⟩, .int .i64 0, .string ⟨#[]⟩, .string ⟨#[]⟩, .int .i64 0, .int .i64 0, .int .i64 0, .int .i64 0, .int .i64 0, .string ⟨#[]⟩, .string ⟨#[]⟩, .int .i64 0, .bool false]) (t := 39) (by first | (go_simp; done) | (go_simp; rfl)) ?_; intro g9 e9 w9 h9 b9; have N9 := Lib.hid (Nat.le_trans HB.out.size (Nat.le_of_eq e9.symm)); have V9 := Lib.hid (show some g9 ≠ Value.ownBlock u6 from fun e => by have := (Kd.R_lt RV.out _ e.symm); omega); replace HB := Lib.hid (below_step HB.out b9); replace RV := Lib.hid (Kd.R_below RV.out b9); have B9 := Lib.hid h9; clear h9 b9 e9)
              | ((with_reducible refine gate_store (t := 39) (p := 8) rfl ?_); refine store_row_event rfl 39 (.tmp 8) (.tmp 23) rfl g9 #[.int .i64 (rd_T39 l i).f0, .int .i64 (rd_T39 l i).f1, .bool (rd_T39 l i).f2, .string (rd_T39 l i).f3, .int .i64 (rd_T39 l i).f4.f0, .string (rd_T39 l i).f4.f1, .string (rd_T39 l i).f4.f2, .int .i64 (rd_T39 l i).f4.f3, .int .i64 (rd_T39 l i).f5, .int .i64 (rd_T39 l i).f6, .int .i64 (rd_T39 l i).f7.f0, .int .i64 (rd_T39 l i).f7.f1, .string (rd_T39 l i).f8.f0, .string (rd_T39 l i).f8.f1, .int .i64 (rd_T39 l i).f8.f2, .bool (rd_T39 l i).f9] rfl rfl 39 _ B9.out (by kernel_rfl) rfl (by simp [Value.oneCell']) ?_; intro v9 h_ q_; replace HB := Lib.hid (below_of_grown HB.out q_ N9.out HB.out.size); replace RV := Lib.hid (Kd.R_grown1 RV.out rfl q_ V9.out); replace B9 := Lib.hid h_; clear h_ q_)
              | ((with_reducible refine gate_dst (N := 25) rfl ?_); refine wpList_load_cell rfl 3 (.tmp 24) rfl g9 8 rfl _ _ B9.out (.int .i64 (rd_T39 l i).f5) rfl _ Try.underlying3 rfl ?_)
              | (fail))
            go_roundw
            case rel => exact ⟨i + 1, by first | rfl | go_num, ⟨by have := PI.out; omega, by have := PI.out; omega⟩, Lib.hid ⟨by rw [HX5.out]; exact RV.out, HB.out⟩⟩
            case measure => have := PI.out; simp [intOf]; omega
          · have h5b : decide ((rd_T39 l i).f5 ≥ row) = false := decide_eq_false h5
            have h5c : decide (row ≤ (rd_T39 l i).f5) = false := decide_eq_false h5
            have HX5 := Lib.hid (show cutRR row (l.take (i + 1).toNat) = cutRR row (l.take i.toNat) ++ [cutC row (rd_T39 l i)] by rw [HTK.out, if_pos (by omega)])
            clear h5
            by_cases h6 : (rd_T39 l i).f6 ≥ row
            · have h6b : decide ((rd_T39 l i).f6 ≥ row) = true := decide_eq_true h6
              have h6c : decide (row ≤ (rd_T39 l i).f6) = true := decide_eq_true h6
              have HX := Lib.hid (show callL (cutC row (rd_T39 l i)) = [.int .i64 (rd_T39 l i).f0, .int .i64 (rd_T39 l i).f1, .bool (rd_T39 l i).f2, .string (rd_T39 l i).f3, .int .i64 (rd_T39 l i).f4.f0, .string (rd_T39 l i).f4.f1, .string (rd_T39 l i).f4.f2, .int .i64 (rd_T39 l i).f4.f3, .int .i64 (rd_T39 l i).f5, .int .i64 (-1), .int .i64 0, .int .i64 0, .string ⟨#[]⟩, .string ⟨#[]⟩, .int .i64 0, .bool false] by unfold cutC; rw [if_pos h6]; rfl)
              clear h6
              go_wp2_with (first
                | ((with_reducible refine gate_dst (N := 23) rfl ?_); refine wpList_load_p rfl 39 (.tmp 22) rfl (ad.add (i.toNat * 16)) rfl [.int .i64 (rd_T39 l i).f0, .int .i64 (rd_T39 l i).f1, .bool (rd_T39 l i).f2, .string (rd_T39 l i).f3, .int .i64 (rd_T39 l i).f4.f0, .string (rd_T39 l i).f4.f1, .string (rd_T39 l i).f4.f2, .int .i64 (rd_T39 l i).f4.f3, .int .i64 (rd_T39 l i).f5, .int .i64 (rd_T39 l i).f6, .int .i64 (rd_T39 l i).f7.f0, .int .i64 (rd_T39 l i).f7.f1, .string (rd_T39 l i).f8.f0, .string (rd_T39 l i).f8.f1, .int .i64 (rd_T39 l i).f8.f2, .bool (rd_T39 l i).f9] _ RK.out Try.underlying39 rfl (by kernel_rfl) ?_)
                | ((with_reducible refine gate_dst (N := 8) rfl ?_); refine box_event rfl (N := 8) rfl (cs := #[.int .i64 0, .int .i64 0, .bool false, .string ⟨#[]⟩, .int .i64 0, .string ⟨#[]⟩, .string ⟨#[]⟩, .int .i64 0, .int .i64 0, .int .i64 0, .int .i64 0, .int .i64 0, .string ⟨#[]⟩, .string ⟨#[]⟩, .int .i64 0, .bool false]) (t := 39) (by first | (go_simp; done) | (go_simp; rfl)) ?_; intro g9 e9 w9 h9 b9; have N9 := Lib.hid (Nat.le_trans HB.out.size (Nat.le_of_eq e9.symm)); have V9 := Lib.hid (show some g9 ≠ Value.ownBlock u6 from fun e => by have := (Kd.R_lt RV.out _ e.symm); omega); replace HB := Lib.hid (below_step HB.out b9); replace RV := Lib.hid (Kd.R_below RV.out b9); have B9 := Lib.hid h9; clear h9 b9 e9)
                | ((with_reducible refine gate_store (t := 39) (p := 8) rfl ?_); refine store_row_event rfl 39 (.tmp 8) (.tmp 23) rfl g9 #[.int .i64 (rd_T39 l i).f0, .int .i64 (rd_T39 l i).f1, .bool (rd_T39 l i).f2, .string (rd_T39 l i).f3, .int .i64 (rd_T39 l i).f4.f0, .string (rd_T39 l i).f4.f1, .string (rd_T39 l i).f4.f2, .int .i64 (rd_T39 l i).f4.f3, .int .i64 (rd_T39 l i).f5, .int .i64 (rd_T39 l i).f6, .int .i64 (rd_T39 l i).f7.f0, .int .i64 (rd_T39 l i).f7.f1, .string (rd_T39 l i).f8.f0, .string (rd_T39 l i).f8.f1, .int .i64 (rd_T39 l i).f8.f2, .bool (rd_T39 l i).f9] rfl rfl 39 _ B9.out (by kernel_rfl) rfl (by simp [Value.oneCell']) ?_; intro v9 h_ q_; replace HB := Lib.hid (below_of_grown HB.out q_ N9.out HB.out.size); replace RV := Lib.hid (Kd.R_grown1 RV.out rfl q_ V9.out); replace B9 := Lib.hid h_; clear h_ q_)
                | ((with_reducible refine gate_dst (N := 25) rfl ?_); refine wpList_load_cell rfl 3 (.tmp 24) rfl g9 8 rfl _ _ B9.out (.int .i64 (rd_T39 l i).f5) rfl _ Try.underlying3 rfl ?_)
                | ((with_reducible refine gate_dst (N := 29) rfl ?_); refine wpList_load_cell rfl 3 (.tmp 28) rfl g9 9 rfl _ _ B9.out (.int .i64 (rd_T39 l i).f6) rfl _ Try.underlying3 rfl ?_)
                | ((with_reducible refine gate_store (t := 3) (p := 34) rfl ?_); refine store_cell_event rfl 3 (.tmp 34) _ rfl g9 9 (.int .i64 (-1)) rfl rfl 39 _ B9.out (by show 9 < 16; decide) (by kernel_rfl) rfl rfl ?_; intro v34 h_ q_; replace HB := Lib.hid (below_of_grown HB.out q_ N9.out HB.out.size); replace RV := Lib.hid (Kd.R_grown1 RV.out rfl q_ V9.out); replace B9 := Lib.hid h_; clear h_ q_; replace B9 : RowKit.Hid (v34.heap[g9]? = some (Obj.cells #[.int .i64 (rd_T39 l i).f0, .int .i64 (rd_T39 l i).f1, .bool (rd_T39 l i).f2, .string (rd_T39 l i).f3, .int .i64 (rd_T39 l i).f4.f0, .string (rd_T39 l i).f4.f1, .string (rd_T39 l i).f4.f2, .int .i64 (rd_T39 l i).f4.f3, .int .i64 (rd_T39 l i).f5, .int .i64 (-1), .int .i64 (rd_T39 l i).f7.f0, .int .i64 (rd_T39 l i).f7.f1, .string (rd_T39 l i).f8.f0, .string (rd_T39 l i).f8.f1, .int .i64 (rd_T39 l i).f8.f2, .bool (rd_T39 l i).f9] 39 (0, 0))) := B9)
                | ((with_reducible refine gate_store (t := 35) (p := 35) rfl ?_); refine store_mid_event rfl 35 (.tmp 35) (.tmp 32) rfl g9 10 #[.int .i64 0, .int .i64 0] rfl rfl 39 _ B9.out (by show 10 + 2 ≤ 16; decide) (by kernel_rfl) (by simp [Value.oneCell']) ?_; intro v35 h_ q_; replace HB := Lib.hid (below_of_grown HB.out q_ N9.out HB.out.size); replace RV := Lib.hid (Kd.R_grown1 RV.out rfl q_ V9.out); replace B9 := Lib.hid h_; clear h_ q_; replace B9 : RowKit.Hid (v35.heap[g9]? = some (Obj.cells #[.int .i64 (rd_T39 l i).f0, .int .i64 (rd_T39 l i).f1, .bool (rd_T39 l i).f2, .string (rd_T39 l i).f3, .int .i64 (rd_T39 l i).f4.f0, .string (rd_T39 l i).f4.f1, .string (rd_T39 l i).f4.f2, .int .i64 (rd_T39 l i).f4.f3, .int .i64 (rd_T39 l i).f5, .int .i64 (-1), .int .i64 0, .int .i64 0, .string (rd_T39 l i).f8.f0, .string (rd_T39 l i).f8.f1, .int .i64 (rd_T39 l i).f8.f2, .bool (rd_T39 l i).f9] 39 (0, 0))) := B9)
                | ((with_reducible refine gate_store (t := 4) (p := 36) rfl ?_); refine store_cell_event rfl 4 (.tmp 36) _ rfl g9 15 (.bool false) rfl rfl 39 _ B9.out (by show 15 < 16; decide) (by kernel_rfl) rfl rfl ?_; intro v36 h_ q_; replace HB := Lib.hid (below_of_grown HB.out q_ N9.out HB.out.size); replace RV := Lib.hid (Kd.R_grown1 RV.out rfl q_ V9.out); replace B9 := Lib.hid h_; clear h_ q_; replace B9 : RowKit.Hid (v36.heap[g9]? = some (Obj.cells #[.int .i64 (rd_T39 l i).f0, .int .i64 (rd_T39 l i).f1, .bool (rd_T39 l i).f2, .string (rd_T39 l i).f3, .int .i64 (rd_T39 l i).f4.f0, .string (rd_T39 l i).f4.f1, .string (rd_T39 l i).f4.f2, .int .i64 (rd_T39 l i).f4.f3, .int .i64 (rd_T39 l i).f5, .int .i64 (-1), .int .i64 0, .int .i64 0, .string (rd_T39 l i).f8.f0, .string (rd_T39 l i).f8.f1, .int .i64 (rd_T39 l i).f8.f2, .bool false] 39 (0, 0))) := B9)
                | ((with_reducible refine gate_store (t := 37) (p := 37) rfl ?_); refine store_mid_event rfl 37 (.tmp 37) (.tmp 33) rfl g9 12 #[.string ⟨#[]⟩, .string ⟨#[]⟩, .int .i64 0] rfl rfl 39 _ B9.out (by show 12 + 3 ≤ 16; decide) (by kernel_rfl) (by simp [Value.oneCell']) ?_; intro v37 h_ q_; replace HB := Lib.hid (below_of_grown HB.out q_ N9.out HB.out.size); replace RV := Lib.hid (Kd.R_grown1 RV.out rfl q_ V9.out); replace B9 := Lib.hid h_; clear h_ q_; replace B9 : RowKit.Hid (v37.heap[g9]? = some (Obj.cells #[.int .i64 (rd_T39 l i).f0, .int .i64 (rd_T39 l i).f1, .bool (rd_T39 l i).f2, .string (rd_T39 l i).f3, .int .i64 (rd_T39 l i).f4.f0, .string (rd_T39 l i).f4.f1, .string (rd_T39 l i).f4.f2, .int .i64 (rd_T39 l i).f4.f3, .int .i64 (rd_T39 l i).f5, .int .i64 (-1), .int .i64 0, .int .i64 0, .string ⟨#[]⟩, .string ⟨#[]⟩, .int .i64 0, .bool false] 39 (0, 0))) := B9)
                | ((with_reducible refine gate_dst (N := 39) rfl ?_); refine wpList_load_row rfl 39 (.tmp 8) rfl g9 rfl 39 #[.int .i64 (rd_T39 l i).f0, .int .i64 (rd_T39 l i).f1, .bool (rd_T39 l i).f2, .string (rd_T39 l i).f3, .int .i64 (rd_T39 l i).f4.f0, .string (rd_T39 l i).f4.f1, .string (rd_T39 l i).f4.f2, .int .i64 (rd_T39 l i).f4.f3, .int .i64 (rd_T39 l i).f5, .int .i64 (-1), .int .i64 0, .int .i64 0, .string ⟨#[]⟩, .string ⟨#[]⟩, .int .i64 0, .bool false] (0, 0) _ B9.out Try.underlying39 rfl (by kernel_rfl) ?_)
                | (at_builtin; refine Kd.R_append_rows k39 (Rr := k39.K (World.alloc v37 (.cells #[.int .i64 (rd_T39 l i).f0, .int .i64 (rd_T39 l i).f1, .bool (rd_T39 l i).f2, .string (rd_T39 l i).f3, .int .i64 (rd_T39 l i).f4.f0, .string (rd_T39 l i).f4.f1, .string (rd_T39 l i).f4.f2, .int .i64 (rd_T39 l i).f4.f3, .int .i64 (rd_T39 l i).f5, .int .i64 (-1), .int .i64 0, .int .i64 0, .string ⟨#[]⟩, .string ⟨#[]⟩, .int .i64 0, .bool false] 39))) (w0 := w) w.heap.size rfl (.tmp 38) (.tmp 40) 22 39 (.agg #[.int .i64 0, .int .i64 0, .bool false, .string ⟨#[]⟩, .int .i64 0, .string ⟨#[]⟩, .string ⟨#[]⟩, .int .i64 0, .int .i64 0, .int .i64 0, .int .i64 0, .int .i64 0, .string ⟨#[]⟩, .string ⟨#[]⟩, .int .i64 0, .bool false]) 168 rfl Try.underlying22 info39 rfl (by decide) (by decide) u6 (cutRR row (l.take i.toNat)) [cutC row (rd_T39 l i)] (some ⟨World.heap v37 |>.size, 0, none⟩) 1 1 (fun _ => True) (fun _ => False) rfl rfl (Kd.R_alloc RV.out _) (by have h := one_C v37 (cutC row (rd_T39 l i)); rw [HX.out] at h; exact h) (fun x cs h => by rw [k39_open h]; exact k39_mkM _ _ _ x) (fun _ h => h.elim) (fun _ _ => trivial) (HB.out.alloc HB.out.size _) (by have := HB.out.size; simp; omega) (by have h0 := HLN.out; have h1 := HN.out; have h2 := PI.out; have h4 : ([cutC row (rd_T39 l i)] : List S39).length = 1 := rfl; omega) ?_; intro v2 w2 hR2 hb2 hg2 hat2; have R2 := Lib.hid hR2; have HB2 := Lib.hid hb2; clear hR2 hb2 hg2 hat2)
                | (fail))
              go_roundw
              case rel => exact ⟨i + 1, by first | rfl | go_num, ⟨by have := PI.out; omega, by have := PI.out; omega⟩, Lib.hid ⟨by rw [HX5.out]; exact R2.out, HB2.out⟩⟩
              case measure => have := PI.out; simp [intOf]; omega
            · have h6b : decide ((rd_T39 l i).f6 ≥ row) = false := decide_eq_false h6
              have h6c : decide (row ≤ (rd_T39 l i).f6) = false := decide_eq_false h6
              have HX := Lib.hid (show callL (cutC row (rd_T39 l i)) = [.int .i64 (rd_T39 l i).f0, .int .i64 (rd_T39 l i).f1, .bool (rd_T39 l i).f2, .string (rd_T39 l i).f3, .int .i64 (rd_T39 l i).f4.f0, .string (rd_T39 l i).f4.f1, .string (rd_T39 l i).f4.f2, .int .i64 (rd_T39 l i).f4.f3, .int .i64 (rd_T39 l i).f5, .int .i64 (rd_T39 l i).f6, .int .i64 (rd_T39 l i).f7.f0, .int .i64 (rd_T39 l i).f7.f1, .string (rd_T39 l i).f8.f0, .string (rd_T39 l i).f8.f1, .int .i64 (rd_T39 l i).f8.f2, .bool (rd_T39 l i).f9] by unfold cutC; rw [if_neg h6]; rfl)
              clear h6
              go_wp2_with (first
                | ((with_reducible refine gate_dst (N := 23) rfl ?_); refine wpList_load_p rfl 39 (.tmp 22) rfl (ad.add (i.toNat * 16)) rfl [.int .i64 (rd_T39 l i).f0, .int .i64 (rd_T39 l i).f1, .bool (rd_T39 l i).f2, .string (rd_T39 l i).f3, .int .i64 (rd_T39 l i).f4.f0, .string (rd_T39 l i).f4.f1, .string (rd_T39 l i).f4.f2, .int .i64 (rd_T39 l i).f4.f3, .int .i64 (rd_T39 l i).f5, .int .i64 (rd_T39 l i).f6, .int .i64 (rd_T39 l i).f7.f0, .int .i64 (rd_T39 l i).f7.f1, .string (rd_T39 l i).f8.f0, .string (rd_T39 l i).f8.f1, .int .i64 (rd_T39 l i).f8.f2, .bool (rd_T39 l i).f9] _ RK.out Try.underlying39 rfl (by kernel_rfl) ?_)
                | ((with_reducible refine gate_dst (N := 8) rfl ?_); refine box_event rfl (N := 8) rfl (cs := #[.int .i64 0, .int .i64 0, .bool false, .string ⟨#[]⟩, .int .i64 0, .string ⟨#[]⟩, .string ⟨#[]⟩, .int .i64 0, .int .i64 0, .int .i64 0, .int .i64 0, .int .i64 0, .string ⟨#[]⟩, .string ⟨#[]⟩, .int .i64 0, .bool false]) (t := 39) (by first | (go_simp; done) | (go_simp; rfl)) ?_; intro g9 e9 w9 h9 b9; have N9 := Lib.hid (Nat.le_trans HB.out.size (Nat.le_of_eq e9.symm)); have V9 := Lib.hid (show some g9 ≠ Value.ownBlock u6 from fun e => by have := (Kd.R_lt RV.out _ e.symm); omega); replace HB := Lib.hid (below_step HB.out b9); replace RV := Lib.hid (Kd.R_below RV.out b9); have B9 := Lib.hid h9; clear h9 b9 e9)
                | ((with_reducible refine gate_store (t := 39) (p := 8) rfl ?_); refine store_row_event rfl 39 (.tmp 8) (.tmp 23) rfl g9 #[.int .i64 (rd_T39 l i).f0, .int .i64 (rd_T39 l i).f1, .bool (rd_T39 l i).f2, .string (rd_T39 l i).f3, .int .i64 (rd_T39 l i).f4.f0, .string (rd_T39 l i).f4.f1, .string (rd_T39 l i).f4.f2, .int .i64 (rd_T39 l i).f4.f3, .int .i64 (rd_T39 l i).f5, .int .i64 (rd_T39 l i).f6, .int .i64 (rd_T39 l i).f7.f0, .int .i64 (rd_T39 l i).f7.f1, .string (rd_T39 l i).f8.f0, .string (rd_T39 l i).f8.f1, .int .i64 (rd_T39 l i).f8.f2, .bool (rd_T39 l i).f9] rfl rfl 39 _ B9.out (by kernel_rfl) rfl (by simp [Value.oneCell']) ?_; intro v9 h_ q_; replace HB := Lib.hid (below_of_grown HB.out q_ N9.out HB.out.size); replace RV := Lib.hid (Kd.R_grown1 RV.out rfl q_ V9.out); replace B9 := Lib.hid h_; clear h_ q_)
                | ((with_reducible refine gate_dst (N := 25) rfl ?_); refine wpList_load_cell rfl 3 (.tmp 24) rfl g9 8 rfl _ _ B9.out (.int .i64 (rd_T39 l i).f5) rfl _ Try.underlying3 rfl ?_)
                | ((with_reducible refine gate_dst (N := 29) rfl ?_); refine wpList_load_cell rfl 3 (.tmp 28) rfl g9 9 rfl _ _ B9.out (.int .i64 (rd_T39 l i).f6) rfl _ Try.underlying3 rfl ?_)
                | ((with_reducible refine gate_dst (N := 39) rfl ?_); refine wpList_load_row rfl 39 (.tmp 8) rfl g9 rfl 39 #[.int .i64 (rd_T39 l i).f0, .int .i64 (rd_T39 l i).f1, .bool (rd_T39 l i).f2, .string (rd_T39 l i).f3, .int .i64 (rd_T39 l i).f4.f0, .string (rd_T39 l i).f4.f1, .string (rd_T39 l i).f4.f2, .int .i64 (rd_T39 l i).f4.f3, .int .i64 (rd_T39 l i).f5, .int .i64 (rd_T39 l i).f6, .int .i64 (rd_T39 l i).f7.f0, .int .i64 (rd_T39 l i).f7.f1, .string (rd_T39 l i).f8.f0, .string (rd_T39 l i).f8.f1, .int .i64 (rd_T39 l i).f8.f2, .bool (rd_T39 l i).f9] (0, 0) _ B9.out Try.underlying39 rfl (by kernel_rfl) ?_)
                | (at_builtin; refine Kd.R_append_rows k39 (Rr := k39.K (World.alloc v9 (.cells #[.int .i64 (rd_T39 l i).f0, .int .i64 (rd_T39 l i).f1, .bool (rd_T39 l i).f2, .string (rd_T39 l i).f3, .int .i64 (rd_T39 l i).f4.f0, .string (rd_T39 l i).f4.f1, .string (rd_T39 l i).f4.f2, .int .i64 (rd_T39 l i).f4.f3, .int .i64 (rd_T39 l i).f5, .int .i64 (rd_T39 l i).f6, .int .i64 (rd_T39 l i).f7.f0, .int .i64 (rd_T39 l i).f7.f1, .string (rd_T39 l i).f8.f0, .string (rd_T39 l i).f8.f1, .int .i64 (rd_T39 l i).f8.f2, .bool (rd_T39 l i).f9] 39))) (w0 := w) w.heap.size rfl (.tmp 38) (.tmp 40) 22 39 (.agg #[.int .i64 0, .int .i64 0, .bool false, .string ⟨#[]⟩, .int .i64 0, .string ⟨#[]⟩, .string ⟨#[]⟩, .int .i64 0, .int .i64 0, .int .i64 0, .int .i64 0, .int .i64 0, .string ⟨#[]⟩, .string ⟨#[]⟩, .int .i64 0, .bool false]) 168 rfl Try.underlying22 info39 rfl (by decide) (by decide) u6 (cutRR row (l.take i.toNat)) [cutC row (rd_T39 l i)] (some ⟨World.heap v9 |>.size, 0, none⟩) 1 1 (fun _ => True) (fun _ => False) rfl rfl (Kd.R_alloc RV.out _) (by have h := one_C v9 (cutC row (rd_T39 l i)); rw [HX.out] at h; exact h) (fun x cs h => by rw [k39_open h]; exact k39_mkM _ _ _ x) (fun _ h => h.elim) (fun _ _ => trivial) (HB.out.alloc HB.out.size _) (by have := HB.out.size; simp; omega) (by have h0 := HLN.out; have h1 := HN.out; have h2 := PI.out; have h4 : ([cutC row (rd_T39 l i)] : List S39).length = 1 := rfl; omega) ?_; intro v2 w2 hR2 hb2 hg2 hat2; have R2 := Lib.hid hR2; have HB2 := Lib.hid hb2; clear hR2 hb2 hg2 hat2)
                | (fail))
              go_roundw
              case rel => exact ⟨i + 1, by first | rfl | go_num, ⟨by have := PI.out; omega, by have := PI.out; omega⟩, Lib.hid ⟨by rw [HX5.out]; exact R2.out, HB2.out⟩⟩
              case measure => have := PI.out; simp [intOf]; omega
        · have hnl : decide (i < (l.length : Int)) = false := decide_eq_false hlt
          have ei : i = (l.length : Int) := by omega
          subst ei
          have HST := Lib.hid (show cutRR row l = cutRR row (l.take (l.length : Int).toNat) by rw [Int.toNat_natCast, List.take_length])
          have HFR := Lib.hid HRB.out
          clear i0 i1 hlt HRB
          go_wp2
          go_ret2
          unfold RCutTo
          rw [HE.out.1, HE.out.2, HST.out]
          exact ⟨_, rfl, HFR.out.1, HFR.out.2⟩
  · have HE := Lib.hid (And.intro (show rcutLL l row = [] by unfold rcutLL; rw [if_neg (by rw [he]; decide)]) (show rcutEE l row = 260 by unfold rcutEE; rw [if_neg (by rw [he]; decide)]))
    have HCH := Lib.hid (HCHK.out 260 he)
    clear he
    go_enter Try.func23, Try.ntmps23
    go_wp2_with (first
      | (go_at_call 17; (with_reducible refine HCH.out.mono ?_); rintro e_ W_ ⟨rfl, hb⟩; have HB := Lib.hid hb; clear hb)
      | (fail))
    go_ret2
    unfold RCutTo
    rw [HE.out.1, HE.out.2]
    exact ⟨.slice none 0 0, rfl, Kd.R_nil _ _ _ _ _, HB.out⟩
end Go.Proofs.Ytbakmkoppieelaa.PLinearChecks

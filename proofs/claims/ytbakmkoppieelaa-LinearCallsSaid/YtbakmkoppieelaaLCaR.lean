/- What is proved: the reference's Calls of any rows; the conditions stand in the theorem. -/
import Derived.Test.YtbakmkoppieelaaLCaM
import Derived.BigQuiet
import Derived.Deep.QuietTactic
namespace Go.Proofs.Ytbakmkoppieelaa.PLinearChecks
open Go.RowKit Go.Proofs.YtbakmkoppieelaaW.PrintWords Go.Proofs.YtbakmkoppieelaaW.PrintLast Go.Proofs.YtbakmkoppieelaaW.PrintMore
set_option linter.unusedVariables false
set_option linter.unusedSimpArgs false
theorem own_C {W : World} {base : Nat} {A : Option Addr} {c : Nat} {l : List S39} (h : Kd.R k39 39 W base (fun _ => True) (.slice A l.length c) l) : Kd.C k39 W A l.length l := (Kd.R_reads' h).2.2
theorem lstK_succ (p : S39 → Bool) (l : List S39) {m : Int} (h : 0 ≤ m) : lstK p l (m + 1).toNat = if p (rd_T39 l m) then m else lstK p l m.toNat := by
  rw [show (m + 1).toNat = m.toNat + 1 by omega, lstK, rd_cl', show ((m.toNat : Nat) : Int) = m by omega]
theorem lst_range (p : S39 → Bool) (l : List S39) (h : ¬ lstI p l < 0) : 0 ≤ lstI p l ∧ lstI p l < (l.length : Int) := by
  unfold lstI at h ⊢
  rcases lstK_at p l l.length with ⟨h1, _⟩ | ⟨k, h1, h2, _⟩
  · rw [h1] at h; exact absurd (by decide) h
  · rw [h2]; omega
def rcal.T24 : Bool × List (List Nat × List Nat) := (true, [([], []), ([], []), ([], []), ([], []), ([], []), ([4], [4]), ([0, 1, 0, 1], [0, 1]), ([6, 0, 1], [6]), ([7, 0, 1], [7]), ([2, 3, 0, 1, 2, 3, 4, 5, 6, 7, 8], [2, 3]), ([9, 0, 1, 2, 3, 4, 5, 6, 7, 8], [9]), ([10, 5, 8, 0, 1, 2, 3, 4, 5, 6, 7, 8], [5, 10])])
def rcal.B24 : List Nat := [0, 0, 0, 0, 0, 16, 3, 67, 195, 511, 1023, 2047]
theorem rcal.tab24 : rtab .any (opsOf Try.f28 24) = rcal.T24 := by kernel_rfl
theorem rcal.bits24 : waitsOk rcal.T24.2 rcal.B24 = true := by kernel_rfl
set_option maxRecDepth 100000 in
set_option maxHeartbeats 8000000 in
theorem rcalls_any (w : World) (A : Option Addr) (c : Nat) (rows : List Ask) (hr : RS w A rows) (hc : rows.length ≤ c) (hn : rows.length * 168 ≤ 140737488351232) :
    Calls Try.prog 28 #[.slice A rows.length c] w fun e w' => CalTo w (outW refF (runW lstI rows 0 [])) e w' := by
  have HR := Lib.hid hr
  have HN := Lib.hid hn
  have HCHK := Lib.hid (fun A c (l : List S39) r (W : World) hr hc (hn : l.length ≤ 140737488351232) (h : refF l = r) => (show Calls Try.prog 17 #[.slice A l.length c] W (fun e w' => e = .returned (.int .i64 r) ∧ Below W.heap.size W w') from h ▸ rcheck_any W A c l hr hc hn))
  clear hr hc hn
  obtain ⟨fin, hfin⟩ : ∃ q, RowKit.Hid (runW lstI rows 0 [] = q) := ⟨_, Lib.hid rfl⟩
  rw [hfin.out]
  go_enter Try.func28, Try.ntmps28
  go_wp2
  go_loopw [4, 5] (fun v4 v5 wr => ∃ (i : Int) (l : List S39), v5 = .int .i64 i ∧ (0 ≤ i ∧ i ≤ (rows.length : Int)) ∧ RowKit.Hid (fin = runW lstI (rows.drop i.toNat) i l) ∧ RowKit.Hid (Kd.R k39 39 wr w.heap.size (fun _ => True) v4 l ∧ Below w.heap.size w wr) ∧ RowKit.Hid (l.length ≤ i.toNat ∧ ∀ x ∈ l, wfC x)) (fun _ v5 _ => ((rows.length : Int) - intOf v5).toNat)
  case atStart => exact ⟨0, [], rfl, ⟨by omega, by omega⟩, Lib.hid hfin.out.symm, Lib.hid ⟨Kd.R_nil _ _ _ _ _, Below.refl _ _⟩, Lib.hid ⟨Nat.zero_le _, fun x hx => by cases hx⟩⟩
  case round =>
    obtain ⟨i, l, rfl, ⟨i0, i1⟩, HO, HRB, HL⟩ := hrel
    obtain ⟨A', c', rfl, hc', hC'⟩ := own_cells (W' := wr) HRB.out.1
    have CL := Lib.hid (And.intro hc' hC')
    clear hc' hC'
    by_cases hlt : i < (rows.length : Int)
    · have c1 : decide (i < (rows.length : Int)) = true := decide_eq_true hlt
      have PI := Lib.hid (show 0 ≤ i ∧ i < (rows.length : Int) ∧ i.toNat < rows.length by omega)
      have pI := eq_true i0
      have qI := eq_true hlt
      have wi : wrap64 (i + 1) = i + 1 := by have h2 := HN.out; unfold wrap64; omega
      have wi2 : IntKind.i64.wrap (i + 1) = i + 1 := (i64_w _).trans wi
      obtain ⟨ad, z, eA, zo, RK⟩ := HR.out wr HRB.out.2 i.toNat PI.out.2.2
      cases eA
      have HD := Lib.hid (runW_drop (f := lstI) PI.out.2.2 l)
      obtain ⟨r, er⟩ : ∃ r, rows[i.toNat]'PI.out.2.2 = r := ⟨_, rfl⟩
      rw [er] at RK HD
      have RK := Lib.hid RK
      have RV := Lib.hid HRB.out.1
      have HB := Lib.hid HRB.out.2
      have SZ := Lib.hid (seen_one r z zo)
      have HW := Lib.hid (show (Lit.int .i64 i).wf = true by have h2 := HN.out; have h3 := PI.out; exact wf_small (by omega) (by omega))
      have HL2 := Lib.hid (fun (l2 : List S39) (hs : stepW lstI i r l = some l2) => (show l2.length ≤ (i + 1).toNat ∧ ∀ x ∈ l2, wfC x from ⟨by have h1 := step_len hs; have h2 := HL.out.1; have h3 := PI.out; omega, step_wf HW.out HL.out.2 hs⟩))
      have HO2 := Lib.hid (show fin = match stepW lstI i r l with | none => none | some l2 => runW lstI (rows.drop (i + 1).toNat) (i + 1) l2 by
        have h1 := HD.out
        have h2 : ((i.toNat : Nat) : Int) = i := by have h3 := PI.out; omega
        have h4 : ((i.toNat + 1 : Nat) : Int) = i + 1 := by have h3 := PI.out; omega
        have h5 : (i + 1).toNat = i.toNat + 1 := by have h3 := PI.out; omega
        rw [h2, h4] at h1
        rw [HO.out, h1, h5]
        cases stepW lstI i r l <;> rfl)
      clear i0 i1 hlt HRB er zo HD
      by_cases hk1 : r.kind = 1
      · have kb1 : (r.kind == 1) = true := by rw [hk1]; rfl
        have kb2 : (r.kind == 2) = false := by rw [hk1]; rfl
        have HS2 := Lib.hid (show stepW lstI i r l = some (l ++ [askC r i]) by unfold stepW; rw [if_pos hk1])
        have HS := Lib.hid (show (match stepW lstI i r l with | none => none | some l2 => runW lstI (rows.drop (i + 1).toNat) (i + 1) l2) = runW lstI (rows.drop (i + 1).toNat) (i + 1) (l ++ [askC r i]) by rw [HS2.out])
        have HO := HO2
        clear hk1 HO2
        cases hrd : r.read with
        | true =>
            have HX := Lib.hid (show callL (askC r i) = [.int .i64 r.client, .int .i64 r.number, .bool true, .string r.key, .int .i64 r.op.f0, .string r.op.f1, .string r.op.f2, .int .i64 r.op.f3, .int .i64 i, .int .i64 (-1), .int .i64 0, .int .i64 0, .string ⟨#[]⟩, .string ⟨#[]⟩, .int .i64 0, .bool false] by unfold askC; rw [if_pos hrd, hrd]; rfl)
            have hrb : r.read = true := hrd
            clear hrd
            go_wp2_with (first
              | ((with_reducible refine gate_dst (N := 19) rfl ?_); refine wpList_load_p rfl 64 (.tmp 18) rfl (ad.add (i.toNat * 34)) rfl (seenL r z) _ RK.out Try.underlying64 rfl (by kernel_rfl) ?_)
              | ((with_reducible refine gate_dst (N := 6) rfl ?_); refine box_event rfl (N := 6) rfl (cs := #[.int .i64 0, .int .i64 0, .int .i64 0, .int .i64 0, .int .i64 0, .int .i64 0, .int .i64 0, .int .i64 0, .bool false, .string ⟨#[]⟩, .int .i64 0, .string ⟨#[]⟩, .string ⟨#[]⟩, .int .i64 0, .int .i64 0, .int .i64 0, .int .i64 0, .int .i64 0, .string ⟨#[]⟩, .string ⟨#[]⟩, .int .i64 0, .int .i64 0, .int .i64 0, .string ⟨#[]⟩, .string ⟨#[]⟩, .int .i64 0, .bool false, .int .i64 0, .slice none 0 0, .int .i64 0, .slice none 0 0, .int .i64 0, .int .i64 0, .slice none 0 0]) (t := 64) (by first | (go_simp; done) | (go_simp; rfl)) ?_; intro g6 e6 w6 h6 b6; have L6 := Lib.hid (Nat.le_trans HB.out.size (Nat.le_of_eq e6.symm)); have V6 := Lib.hid (show some g6 ≠ Value.ownBlock (Value.slice A' l.length c') from fun e => by have := (Kd.R_lt RV.out _ e.symm); omega); replace HB := Lib.hid (below_step HB.out b6); replace RV := Lib.hid (Kd.R_below RV.out b6); have B6 := Lib.hid h6; clear h6 b6 e6)
              | ((with_reducible refine gate_store (t := 64) (p := 6) rfl ?_); refine store_row_event rfl 64 (.tmp 6) (.tmp 19) rfl g6 (seenL r z).toArray rfl rfl 64 _ B6.out (by kernel_rfl) rfl (SZ.out) ?_; intro v6 h_ q_; replace HB := Lib.hid (below_of_grown HB.out q_ L6.out HB.out.size); replace RV := Lib.hid (Kd.R_grown1 RV.out rfl q_ V6.out); replace B6 := Lib.hid h_; clear h_ q_)
              | ((with_reducible refine gate_dst (N := 21) rfl ?_); refine wpList_load_cell rfl 51 (.tmp 20) rfl g6 0 rfl _ _ B6.out (.int .i64 r.kind) rfl _ Try.underlying51 rfl ?_)
              | ((with_reducible refine gate_dst (N := 24) rfl ?_); refine wpList_load_cell rfl 3 (.tmp 23) rfl g6 3 rfl _ _ B6.out (.int .i64 r.client) rfl _ Try.underlying3 rfl ?_)
              | ((with_reducible refine gate_dst (N := 26) rfl ?_); refine wpList_load_cell rfl 3 (.tmp 25) rfl g6 4 rfl _ _ B6.out (.int .i64 r.number) rfl _ Try.underlying3 rfl ?_)
              | ((with_reducible refine gate_dst (N := 28) rfl ?_); refine wpList_load_cell rfl 4 (.tmp 27) rfl g6 8 rfl _ _ B6.out (.bool r.read) rfl _ Try.underlying4 rfl ?_)
              | ((with_reducible refine gate_dst (N := 30) rfl ?_); refine wpList_load_cell rfl 9 (.tmp 29) rfl g6 9 rfl _ _ B6.out (.string r.key) rfl _ Try.underlying9 rfl ?_)
              | ((with_reducible refine gate_dst (N := 32) rfl ?_); refine wpList_load_p rfl 32 (.tmp 31) rfl ⟨g6, 10, none⟩ rfl [.int .i64 r.op.f0, .string r.op.f1, .string r.op.f2, .int .i64 r.op.f3] _ (mid_cells B6.out rfl) Try.underlying32 rfl (by kernel_rfl) ?_)
              | ((with_reducible refine gate_dst (N := 7) rfl ?_); refine box_event rfl (N := 7) rfl (cs := #[.int .i64 0, .int .i64 0, .bool false, .string ⟨#[]⟩, .int .i64 0, .string ⟨#[]⟩, .string ⟨#[]⟩, .int .i64 0, .int .i64 0, .int .i64 0, .int .i64 0, .int .i64 0, .string ⟨#[]⟩, .string ⟨#[]⟩, .int .i64 0, .bool false]) (t := 39) (by first | (go_simp; done) | (go_simp; rfl)) ?_; intro g7 e7 w7 h7 b7; have L7 := Lib.hid (Nat.le_trans HB.out.size (Nat.le_of_eq e7.symm)); have V7 := Lib.hid (show some g7 ≠ Value.ownBlock (Value.slice A' l.length c') from fun e => by have := (Kd.R_lt RV.out _ e.symm); omega); have N67 := Lib.hid (Nat.ne_of_lt (Nat.lt_of_lt_of_eq (blk_lt B6.out) e7.symm)); replace B6 := Lib.hid (blk_below B6.out b7); replace HB := Lib.hid (below_step HB.out b7); replace RV := Lib.hid (Kd.R_below RV.out b7); have B7 := Lib.hid h7; clear h7 b7 e7)
              | ((with_reducible refine gate_store (t := 39) (p := 7) rfl ?_); refine store_row_event rfl 39 (.tmp 7) (.tmp 34) rfl g7 #[.int .i64 r.client, .int .i64 r.number, .bool true, .string r.key, .int .i64 r.op.f0, .string r.op.f1, .string r.op.f2, .int .i64 r.op.f3, .int .i64 i, .int .i64 (-1), .int .i64 0, .int .i64 0, .string ⟨#[]⟩, .string ⟨#[]⟩, .int .i64 0, .bool false] rfl rfl 39 _ B7.out (by kernel_rfl) rfl (by simp [Value.oneCell']) ?_; intro v7 h_ q_; replace B6 := Lib.hid (blk_grown B6.out q_ (by intro e_; injection e_ with e_; exact N67.out e_)); replace HB := Lib.hid (below_of_grown HB.out q_ L7.out HB.out.size); replace RV := Lib.hid (Kd.R_grown1 RV.out rfl q_ V7.out); replace B7 := Lib.hid h_; clear h_ q_)
              | ((with_reducible refine gate_dst (N := 36) rfl ?_); refine wpList_load_cell rfl 4 (.tmp 35) rfl g6 8 rfl _ _ B6.out (.bool r.read) rfl _ Try.underlying4 rfl ?_)
              | ((with_reducible refine gate_dst (N := 43) rfl ?_); refine wpList_load_row rfl 39 (.tmp 7) rfl g7 rfl 39 #[.int .i64 r.client, .int .i64 r.number, .bool true, .string r.key, .int .i64 r.op.f0, .string r.op.f1, .string r.op.f2, .int .i64 r.op.f3, .int .i64 i, .int .i64 (-1), .int .i64 0, .int .i64 0, .string ⟨#[]⟩, .string ⟨#[]⟩, .int .i64 0, .bool false] (0, 0) _ B7.out Try.underlying39 rfl (by kernel_rfl) ?_)
              | (at_builtin; refine Kd.R_append_rows k39 (Rr := k39.K (World.alloc v7 (.cells #[.int .i64 r.client, .int .i64 r.number, .bool true, .string r.key, .int .i64 r.op.f0, .string r.op.f1, .string r.op.f2, .int .i64 r.op.f3, .int .i64 i, .int .i64 (-1), .int .i64 0, .int .i64 0, .string ⟨#[]⟩, .string ⟨#[]⟩, .int .i64 0, .bool false] 39))) (w0 := w) w.heap.size rfl (.tmp 42) (.tmp 44) 22 39 (.agg #[.int .i64 0, .int .i64 0, .bool false, .string ⟨#[]⟩, .int .i64 0, .string ⟨#[]⟩, .string ⟨#[]⟩, .int .i64 0, .int .i64 0, .int .i64 0, .int .i64 0, .int .i64 0, .string ⟨#[]⟩, .string ⟨#[]⟩, .int .i64 0, .bool false]) 168 rfl Try.underlying22 info39 rfl (by decide) (by decide) (Value.slice A' l.length c') l [askC r i] (some ⟨World.heap v7 |>.size, 0, none⟩) 1 1 (fun _ => True) (fun _ => False) rfl rfl (Kd.R_alloc RV.out _) (by have h := one_C v7 (askC r i); rw [HX.out] at h; exact h) (fun x cs h => by rw [k39_open h]; exact k39_mkM _ _ _ x) (fun _ h => h.elim) (fun _ _ => trivial) (HB.out.alloc HB.out.size _) (by have := HB.out.size; simp; omega) (by have h1 := HN.out; have h2 := PI.out; have h3 := HL.out.1; have h4 : ([askC r i] : List S39).length = 1 := rfl; omega) ?_; intro v2 w2 hR2 hb2 hg2 hat2; have R2 := Lib.hid hR2; have HB2 := Lib.hid hb2; replace B6 := Lib.hid (blk_grown (blk_alloc B6.out _) hg2 V6.out); clear hR2 hb2 hg2 hat2)
              | ((with_reducible refine gate_dst (N := 47) rfl ?_); refine wpList_load_cell rfl 51 (.tmp 46) rfl g6 0 rfl _ _ B6.out (.int .i64 r.kind) rfl _ Try.underlying51 rfl ?_)
              | (fail))
            go_roundw
            case rel => exact ⟨i + 1, l ++ [askC r i], by first | rfl | go_num, ⟨by have := PI.out; omega, by have := PI.out; omega⟩, Lib.hid (by rw [HO.out, HS.out]), Lib.hid ⟨R2.out, HB2.out⟩, Lib.hid (HL2.out _ HS2.out)⟩
            case measure => have := PI.out; simp [intOf]; omega
        | false =>
            have HX := Lib.hid (show callL (askC r i) = [.int .i64 r.client, .int .i64 r.number, .bool false, .string r.op.f1, .int .i64 r.op.f0, .string r.op.f1, .string r.op.f2, .int .i64 r.op.f3, .int .i64 i, .int .i64 (-1), .int .i64 0, .int .i64 0, .string ⟨#[]⟩, .string ⟨#[]⟩, .int .i64 0, .bool false] by unfold askC; rw [hrd, if_neg (by decide)]; rfl)
            have hrb : r.read = false := hrd
            clear hrd
            go_wp2_with (first
              | ((with_reducible refine gate_dst (N := 19) rfl ?_); refine wpList_load_p rfl 64 (.tmp 18) rfl (ad.add (i.toNat * 34)) rfl (seenL r z) _ RK.out Try.underlying64 rfl (by kernel_rfl) ?_)
              | ((with_reducible refine gate_dst (N := 6) rfl ?_); refine box_event rfl (N := 6) rfl (cs := #[.int .i64 0, .int .i64 0, .int .i64 0, .int .i64 0, .int .i64 0, .int .i64 0, .int .i64 0, .int .i64 0, .bool false, .string ⟨#[]⟩, .int .i64 0, .string ⟨#[]⟩, .string ⟨#[]⟩, .int .i64 0, .int .i64 0, .int .i64 0, .int .i64 0, .int .i64 0, .string ⟨#[]⟩, .string ⟨#[]⟩, .int .i64 0, .int .i64 0, .int .i64 0, .string ⟨#[]⟩, .string ⟨#[]⟩, .int .i64 0, .bool false, .int .i64 0, .slice none 0 0, .int .i64 0, .slice none 0 0, .int .i64 0, .int .i64 0, .slice none 0 0]) (t := 64) (by first | (go_simp; done) | (go_simp; rfl)) ?_; intro g6 e6 w6 h6 b6; have L6 := Lib.hid (Nat.le_trans HB.out.size (Nat.le_of_eq e6.symm)); have V6 := Lib.hid (show some g6 ≠ Value.ownBlock (Value.slice A' l.length c') from fun e => by have := (Kd.R_lt RV.out _ e.symm); omega); replace HB := Lib.hid (below_step HB.out b6); replace RV := Lib.hid (Kd.R_below RV.out b6); have B6 := Lib.hid h6; clear h6 b6 e6)
              | ((with_reducible refine gate_store (t := 64) (p := 6) rfl ?_); refine store_row_event rfl 64 (.tmp 6) (.tmp 19) rfl g6 (seenL r z).toArray rfl rfl 64 _ B6.out (by kernel_rfl) rfl (SZ.out) ?_; intro v6 h_ q_; replace HB := Lib.hid (below_of_grown HB.out q_ L6.out HB.out.size); replace RV := Lib.hid (Kd.R_grown1 RV.out rfl q_ V6.out); replace B6 := Lib.hid h_; clear h_ q_)
              | ((with_reducible refine gate_dst (N := 21) rfl ?_); refine wpList_load_cell rfl 51 (.tmp 20) rfl g6 0 rfl _ _ B6.out (.int .i64 r.kind) rfl _ Try.underlying51 rfl ?_)
              | ((with_reducible refine gate_dst (N := 24) rfl ?_); refine wpList_load_cell rfl 3 (.tmp 23) rfl g6 3 rfl _ _ B6.out (.int .i64 r.client) rfl _ Try.underlying3 rfl ?_)
              | ((with_reducible refine gate_dst (N := 26) rfl ?_); refine wpList_load_cell rfl 3 (.tmp 25) rfl g6 4 rfl _ _ B6.out (.int .i64 r.number) rfl _ Try.underlying3 rfl ?_)
              | ((with_reducible refine gate_dst (N := 28) rfl ?_); refine wpList_load_cell rfl 4 (.tmp 27) rfl g6 8 rfl _ _ B6.out (.bool r.read) rfl _ Try.underlying4 rfl ?_)
              | ((with_reducible refine gate_dst (N := 30) rfl ?_); refine wpList_load_cell rfl 9 (.tmp 29) rfl g6 9 rfl _ _ B6.out (.string r.key) rfl _ Try.underlying9 rfl ?_)
              | ((with_reducible refine gate_dst (N := 32) rfl ?_); refine wpList_load_p rfl 32 (.tmp 31) rfl ⟨g6, 10, none⟩ rfl [.int .i64 r.op.f0, .string r.op.f1, .string r.op.f2, .int .i64 r.op.f3] _ (mid_cells B6.out rfl) Try.underlying32 rfl (by kernel_rfl) ?_)
              | ((with_reducible refine gate_dst (N := 7) rfl ?_); refine box_event rfl (N := 7) rfl (cs := #[.int .i64 0, .int .i64 0, .bool false, .string ⟨#[]⟩, .int .i64 0, .string ⟨#[]⟩, .string ⟨#[]⟩, .int .i64 0, .int .i64 0, .int .i64 0, .int .i64 0, .int .i64 0, .string ⟨#[]⟩, .string ⟨#[]⟩, .int .i64 0, .bool false]) (t := 39) (by first | (go_simp; done) | (go_simp; rfl)) ?_; intro g7 e7 w7 h7 b7; have L7 := Lib.hid (Nat.le_trans HB.out.size (Nat.le_of_eq e7.symm)); have V7 := Lib.hid (show some g7 ≠ Value.ownBlock (Value.slice A' l.length c') from fun e => by have := (Kd.R_lt RV.out _ e.symm); omega); have N67 := Lib.hid (Nat.ne_of_lt (Nat.lt_of_lt_of_eq (blk_lt B6.out) e7.symm)); replace B6 := Lib.hid (blk_below B6.out b7); replace HB := Lib.hid (below_step HB.out b7); replace RV := Lib.hid (Kd.R_below RV.out b7); have B7 := Lib.hid h7; clear h7 b7 e7)
              | ((with_reducible refine gate_store (t := 39) (p := 7) rfl ?_); refine store_row_event rfl 39 (.tmp 7) (.tmp 34) rfl g7 #[.int .i64 r.client, .int .i64 r.number, .bool false, .string r.key, .int .i64 r.op.f0, .string r.op.f1, .string r.op.f2, .int .i64 r.op.f3, .int .i64 i, .int .i64 (-1), .int .i64 0, .int .i64 0, .string ⟨#[]⟩, .string ⟨#[]⟩, .int .i64 0, .bool false] rfl rfl 39 _ B7.out (by kernel_rfl) rfl (by simp [Value.oneCell']) ?_; intro v7 h_ q_; replace B6 := Lib.hid (blk_grown B6.out q_ (by intro e_; injection e_ with e_; exact N67.out e_)); replace HB := Lib.hid (below_of_grown HB.out q_ L7.out HB.out.size); replace RV := Lib.hid (Kd.R_grown1 RV.out rfl q_ V7.out); replace B7 := Lib.hid h_; clear h_ q_)
              | ((with_reducible refine gate_dst (N := 36) rfl ?_); refine wpList_load_cell rfl 4 (.tmp 35) rfl g6 8 rfl _ _ B6.out (.bool r.read) rfl _ Try.underlying4 rfl ?_)
              | ((with_reducible refine gate_dst (N := 40) rfl ?_); refine wpList_load_cell rfl 9 (.tmp 39) rfl g6 11 rfl _ _ B6.out (.string r.op.f1) rfl _ Try.underlying9 rfl ?_)
              | ((with_reducible refine gate_store (t := 9) (p := 41) rfl ?_); refine store_cell_event rfl 9 (.tmp 41) _ rfl g7 3 (.string r.op.f1) rfl rfl 39 _ B7.out (by show 3 < 16; decide) (by kernel_rfl) rfl rfl ?_; intro v40 h_ q_; replace B6 := Lib.hid (blk_grown B6.out q_ (by intro e_; injection e_ with e_; exact N67.out e_)); replace HB := Lib.hid (below_of_grown HB.out q_ L7.out HB.out.size); replace RV := Lib.hid (Kd.R_grown1 RV.out rfl q_ V7.out); replace B7 := Lib.hid h_; clear h_ q_; replace B7 : RowKit.Hid (v40.heap[g7]? = some (Obj.cells #[.int .i64 r.client, .int .i64 r.number, .bool false, .string r.op.f1, .int .i64 r.op.f0, .string r.op.f1, .string r.op.f2, .int .i64 r.op.f3, .int .i64 i, .int .i64 (-1), .int .i64 0, .int .i64 0, .string ⟨#[]⟩, .string ⟨#[]⟩, .int .i64 0, .bool false] 39 (0, 0))) := B7)
              | ((with_reducible refine gate_dst (N := 43) rfl ?_); refine wpList_load_row rfl 39 (.tmp 7) rfl g7 rfl 39 #[.int .i64 r.client, .int .i64 r.number, .bool false, .string r.op.f1, .int .i64 r.op.f0, .string r.op.f1, .string r.op.f2, .int .i64 r.op.f3, .int .i64 i, .int .i64 (-1), .int .i64 0, .int .i64 0, .string ⟨#[]⟩, .string ⟨#[]⟩, .int .i64 0, .bool false] (0, 0) _ B7.out Try.underlying39 rfl (by kernel_rfl) ?_)
              | (at_builtin; refine Kd.R_append_rows k39 (Rr := k39.K (World.alloc v40 (.cells #[.int .i64 r.client, .int .i64 r.number, .bool false, .string r.op.f1, .int .i64 r.op.f0, .string r.op.f1, .string r.op.f2, .int .i64 r.op.f3, .int .i64 i, .int .i64 (-1), .int .i64 0, .int .i64 0, .string ⟨#[]⟩, .string ⟨#[]⟩, .int .i64 0, .bool false] 39))) (w0 := w) w.heap.size rfl (.tmp 42) (.tmp 44) 22 39 (.agg #[.int .i64 0, .int .i64 0, .bool false, .string ⟨#[]⟩, .int .i64 0, .string ⟨#[]⟩, .string ⟨#[]⟩, .int .i64 0, .int .i64 0, .int .i64 0, .int .i64 0, .int .i64 0, .string ⟨#[]⟩, .string ⟨#[]⟩, .int .i64 0, .bool false]) 168 rfl Try.underlying22 info39 rfl (by decide) (by decide) (Value.slice A' l.length c') l [askC r i] (some ⟨World.heap v40 |>.size, 0, none⟩) 1 1 (fun _ => True) (fun _ => False) rfl rfl (Kd.R_alloc RV.out _) (by have h := one_C v40 (askC r i); rw [HX.out] at h; exact h) (fun x cs h => by rw [k39_open h]; exact k39_mkM _ _ _ x) (fun _ h => h.elim) (fun _ _ => trivial) (HB.out.alloc HB.out.size _) (by have := HB.out.size; simp; omega) (by have h1 := HN.out; have h2 := PI.out; have h3 := HL.out.1; have h4 : ([askC r i] : List S39).length = 1 := rfl; omega) ?_; intro v2 w2 hR2 hb2 hg2 hat2; have R2 := Lib.hid hR2; have HB2 := Lib.hid hb2; replace B6 := Lib.hid (blk_grown (blk_alloc B6.out _) hg2 V6.out); clear hR2 hb2 hg2 hat2)
              | ((with_reducible refine gate_dst (N := 47) rfl ?_); refine wpList_load_cell rfl 51 (.tmp 46) rfl g6 0 rfl _ _ B6.out (.int .i64 r.kind) rfl _ Try.underlying51 rfl ?_)
              | (fail))
            go_roundw
            case rel => exact ⟨i + 1, l ++ [askC r i], by first | rfl | go_num, ⟨by have := PI.out; omega, by have := PI.out; omega⟩, Lib.hid (by rw [HO.out, HS.out]), Lib.hid ⟨R2.out, HB2.out⟩, Lib.hid (HL2.out _ HS2.out)⟩
            case measure => have := PI.out; simp [intOf]; omega
      · have kb1 : (r.kind == 1) = false := by simpa using hk1
        by_cases hk2 : r.kind = 2
        · have kb2 : (r.kind == 2) = true := by rw [hk2]; rfl
          go_upto_region 13 with (first
            | ((with_reducible refine gate_dst (N := 19) rfl ?_); refine wpList_load_p rfl 64 (.tmp 18) rfl (ad.add (i.toNat * 34)) rfl (seenL r z) _ RK.out Try.underlying64 rfl (by kernel_rfl) ?_)
            | ((with_reducible refine gate_dst (N := 6) rfl ?_); refine box_event rfl (N := 6) rfl (cs := #[.int .i64 0, .int .i64 0, .int .i64 0, .int .i64 0, .int .i64 0, .int .i64 0, .int .i64 0, .int .i64 0, .bool false, .string ⟨#[]⟩, .int .i64 0, .string ⟨#[]⟩, .string ⟨#[]⟩, .int .i64 0, .int .i64 0, .int .i64 0, .int .i64 0, .int .i64 0, .string ⟨#[]⟩, .string ⟨#[]⟩, .int .i64 0, .int .i64 0, .int .i64 0, .string ⟨#[]⟩, .string ⟨#[]⟩, .int .i64 0, .bool false, .int .i64 0, .slice none 0 0, .int .i64 0, .slice none 0 0, .int .i64 0, .int .i64 0, .slice none 0 0]) (t := 64) (by first | (go_simp; done) | (go_simp; rfl)) ?_; intro g6 e6 w6 h6 b6; have L6 := Lib.hid (Nat.le_trans HB.out.size (Nat.le_of_eq e6.symm)); have V6 := Lib.hid (show some g6 ≠ Value.ownBlock (Value.slice A' l.length c') from fun e => by have := (Kd.R_lt RV.out _ e.symm); omega); replace HB := Lib.hid (below_step HB.out b6); replace RV := Lib.hid (Kd.R_below RV.out b6); have B6 := Lib.hid h6; clear h6 b6 e6)
            | ((with_reducible refine gate_store (t := 64) (p := 6) rfl ?_); refine store_row_event rfl 64 (.tmp 6) (.tmp 19) rfl g6 (seenL r z).toArray rfl rfl 64 _ B6.out (by kernel_rfl) rfl (SZ.out) ?_; intro v6 h_ q_; replace HB := Lib.hid (below_of_grown HB.out q_ L6.out HB.out.size); replace RV := Lib.hid (Kd.R_grown1 RV.out rfl q_ V6.out); replace B6 := Lib.hid h_; clear h_ q_)
            | ((with_reducible refine gate_dst (N := 21) rfl ?_); refine wpList_load_cell rfl 51 (.tmp 20) rfl g6 0 rfl _ _ B6.out (.int .i64 r.kind) rfl _ Try.underlying51 rfl ?_)
            | ((with_reducible refine gate_dst (N := 47) rfl ?_); refine wpList_load_cell rfl 51 (.tmp 46) rfl g6 0 rfl _ _ B6.out (.int .i64 r.kind) rfl _ Try.underlying51 rfl ?_)
            | (fail))
          go_wp2
          go_loopw [8, 9] (fun v8 v9 wq => ∃ m : Int, v9 = .int .i64 m ∧ v8 = .int .i64 (lstK (mtB r) l m.toNat) ∧ (0 ≤ m ∧ m ≤ (l.length : Int)) ∧ RowKit.Hid (Below v6.heap.size v6 wq)) (fun _ v9 _ => ((l.length : Int) - intOf v9).toNat)
          case atStart => exact ⟨0, rfl, rfl, ⟨by omega, by omega⟩, Lib.hid (Below.refl _ _)⟩
          case round =>
            obtain ⟨m, rfl, rfl, ⟨m0, m1⟩, HQ⟩ := hrel
            by_cases hmlt : m < (l.length : Int)
            · have d1 : decide (m < (l.length : Int)) = true := decide_eq_true hmlt
              have PM := Lib.hid (show 0 ≤ m ∧ m < (l.length : Int) ∧ m.toNat < l.length by omega)
              have pM := eq_true m0
              have qM := eq_true hmlt
              have wm : wrap64 (m + 1) = m + 1 := by have h2 := HN.out; have h3 := HL.out.1; have h4 := PI.out; unfold wrap64; omega
              have wm2 : IntKind.i64.wrap (m + 1) = m + 1 := (i64_w _).trans wm
              have HLK := Lib.hid (lstK_succ (mtB r) l PM.out.1)
              have CM := Lib.hid (own_C (Kd.R_below RV.out HQ.out))
              have C6 := Lib.hid (blk_below B6.out HQ.out)
              obtain ⟨adm, eM, -⟩ := at_T39 CM.out m PM.out.1 PM.out.2.1
              cases eM
              obtain ⟨lk, elk⟩ : ∃ q, lstK (mtB r) l m.toNat = q := ⟨_, rfl⟩
              rw [elk] at HLK ⊢
              clear elk m0 m1 hmlt
              have HLK0 := HLK
              go_upto_region 16 with (fail)
              have C6a := (blk_cell C6.out 3).trans (show (seenL r z).toArray[3]? = some (Value.int .i64 r.client) from rfl)
              have C6b := (blk_cell C6.out 4).trans (show (seenL r z).toArray[4]? = some (Value.int .i64 r.number) from rfl)
              have C6c := (blk_cell C6.out 8).trans (show (seenL r z).toArray[8]? = some (Value.bool r.read) from rfl)
              obtain ⟨adI, eI, xI0, xI1, xI2, -, -, -, -, -, -, xI9, -⟩ := at_T39 CM.out m PM.out.1 PM.out.2.1
              obtain rfl : adm = adI := (by injection eI)
              clear eI
              cases t1 : ((rd_T39 l m).f0 == r.client) with
              | false =>
                have HMT := Lib.hid (show mtB r (rd_T39 l m) = false by unfold mtB; rw [t1]; simp)
                go_quiet (fail)
                clear C6a C6b C6c xI0 xI1 xI2 xI9
                have HQ2 := Lib.hid (pw_below_drewN HQ.out nq)
                go_wp2
                go_roundw
                case rel => exact ⟨m + 1, by first | rfl | go_num, by rw [HLK.out, HMT.out]; first | rfl | go_num, ⟨by have := PM.out; omega, by have := PM.out; omega⟩, HQ2⟩
                case measure => have := PM.out; simp [intOf]; omega
              | true =>
                cases t2 : ((rd_T39 l m).f1 == r.number) with
                | false =>
                  have HMT := Lib.hid (show mtB r (rd_T39 l m) = false by unfold mtB; rw [t2]; simp)
                  go_quiet (fail)
                  clear C6a C6b C6c xI0 xI1 xI2 xI9
                  have HQ2 := Lib.hid (pw_below_drewN HQ.out nq)
                  go_wp2
                  go_roundw
                  case rel => exact ⟨m + 1, by first | rfl | go_num, by rw [HLK.out, HMT.out]; first | rfl | go_num, ⟨by have := PM.out; omega, by have := PM.out; omega⟩, HQ2⟩
                  case measure => have := PM.out; simp [intOf]; omega
                | true =>
                  cases t3 : ((rd_T39 l m).f2 == r.read) with
                  | false =>
                    have HMT := Lib.hid (show mtB r (rd_T39 l m) = false by unfold mtB; rw [t3]; simp)
                    go_quiet (fail)
                    clear C6a C6b C6c xI0 xI1 xI2 xI9
                    have HQ2 := Lib.hid (pw_below_drewN HQ.out nq)
                    go_wp2
                    go_roundw
                    case rel => exact ⟨m + 1, by first | rfl | go_num, by rw [HLK.out, HMT.out]; first | rfl | go_num, ⟨by have := PM.out; omega, by have := PM.out; omega⟩, HQ2⟩
                    case measure => have := PM.out; simp [intOf]; omega
                  | true =>
                    cases t4 : ((rd_T39 l m).f6 == -1) with
                    | false =>
                      have HMT := Lib.hid (show mtB r (rd_T39 l m) = false by unfold mtB; rw [t4]; simp)
                      go_quiet (fail)
                      clear C6a C6b C6c xI0 xI1 xI2 xI9
                      have HQ2 := Lib.hid (pw_below_drewN HQ.out nq)
                      go_wp2
                      go_roundw
                      case rel => exact ⟨m + 1, by first | rfl | go_num, by rw [HLK.out, HMT.out]; first | rfl | go_num, ⟨by have := PM.out; omega, by have := PM.out; omega⟩, HQ2⟩
                      case measure => have := PM.out; simp [intOf]; omega
                    | true =>
                      have HMT := Lib.hid (show mtB r (rd_T39 l m) = true by unfold mtB; rw [t1, t2, t3, t4]; rfl)
                      go_quiet (fail)
                      clear C6a C6b C6c xI0 xI1 xI2 xI9
                      have HQ2 := Lib.hid (pw_below_drewN HQ.out nq)
                      go_wp2
                      go_roundw
                      case rel => exact ⟨m + 1, by first | rfl | go_num, by rw [HLK.out, HMT.out]; first | rfl | go_num, ⟨by have := PM.out; omega, by have := PM.out; omega⟩, HQ2⟩
                      case measure => have := PM.out; simp [intOf]; omega
            · have dn : decide (m < (l.length : Int)) = false := decide_eq_false hmlt
              have em : m = (l.length : Int) := by omega
              subst em
              obtain ⟨k, ek⟩ : ∃ k, lstI (mtB r) l = k := ⟨_, rfl⟩
              have ek2 : lstK (mtB r) l ((l.length : Int)).toNat = k := by rw [Int.toNat_natCast]; exact ek
              rw [ek2]
              replace HB := Lib.hid (below_step HB.out HQ.out)
              replace RV := Lib.hid (Kd.R_below RV.out HQ.out)
              replace B6 := Lib.hid (blk_below B6.out HQ.out)
              clear ek2 m0 m1 hmlt HQ
              by_cases hk : k < 0
              · have dk : decide (k < 0) = true := decide_eq_true hk
                have HF := Lib.hid (show fin = none by rw [HO2.out]; unfold stepW; rw [if_neg hk1, if_pos hk2, if_pos (by rw [ek]; exact hk)])
                clear hk1 hk2 ek HO2 hk
                go_wp2_with (fail)
                go_ret2
                rw [HF.out]
                exact cal_to (xs := []) (n := 260) rfl (Kd.R_nil _ _ _ _ _) HB.out
              · have dk : decide (k < 0) = false := decide_eq_false hk
                have HK := Lib.hid (show 0 ≤ k ∧ k < (l.length : Int) ∧ k.toNat < l.length by have h := lst_range (mtB r) l (by rw [ek]; exact hk); rw [ek] at h; omega)
                have pK := eq_true HK.out.1
                have qK := eq_true HK.out.2.1
                have HS2 := Lib.hid (show stepW lstI i r l = some (l.set k.toNat (ansC r i (cl l k.toNat))) by unfold stepW; rw [if_neg hk1, if_pos hk2, if_neg (by rw [ek]; exact hk), ek])
                have HS := Lib.hid (show fin = runW lstI (rows.drop (i + 1).toNat) (i + 1) (l.set k.toNat (ansC r i (cl l k.toNat))) by rw [HO2.out, HS2.out])
                obtain ⟨y, ey⟩ : ∃ y, cl l k.toNat = y := ⟨_, rfl⟩
                rw [ey] at HS2 HS
                have EY := Lib.hid ey
                clear hk1 hk2 ek HO2 hk ey
                obtain ⟨gq, cq, pq, qq, eq_, bq_, cq_, lq_, hq_, closeq⟩ := R_split RV.out k.toNat HK.out.2.2
                cases eq_
                rw [EY.out] at hq_
                have BQ := Lib.hid hq_
                have LQ := Lib.hid lq_
                have CQ := Lib.hid closeq
                have GQ := Lib.hid bq_
                have NQ := Lib.hid (show g6 ≠ gq from fun e => V6.out ((congrArg some e).trans rfl))
                clear hq_ lq_ closeq bq_ cq_ RV
                cases hrd : r.read with
                | false =>
                  have HX := Lib.hid (show callL (ansC r i y) = [.int .i64 y.f0, .int .i64 y.f1, .bool y.f2, .string y.f3, .int .i64 y.f4.f0, .string y.f4.f1, .string y.f4.f2, .int .i64 y.f4.f3, .int .i64 y.f5, .int .i64 i, .int .i64 r.res.f0, .int .i64 r.res.f1, .string y.f8.f0, .string y.f8.f1, .int .i64 y.f8.f2, .bool y.f9] by unfold ansC; rw [if_neg (by rw [hrd]; decide)]; rfl)
                  go_wp2_with (first
                    | ((with_reducible refine gate_store (t := 3) (p := 98) rfl ?_); refine elem_cell_event rfl 3 (.tmp 98) _ rfl gq (k.toNat * 16) 9 (.int .i64 i) rfl rfl 39 pq _ qq LQ.out BQ.out (by show 9 < 16; decide) (by kernel_rfl) rfl rfl ?_; intro v58 h_ q_; replace B6 := Lib.hid (blk_grown B6.out q_ (by intro e_; injection e_ with e_; exact NQ.out e_)); replace HB := Lib.hid (below_of_grown HB.out q_ GQ.out HB.out.size); replace BQ := Lib.hid h_; clear h_ q_; replace BQ : RowKit.Hid (v58.heap[gq]? = some (Obj.cells (List.toArray (pq ++ ([.int .i64 y.f0, .int .i64 y.f1, .bool y.f2, .string y.f3, .int .i64 y.f4.f0, .string y.f4.f1, .string y.f4.f2, .int .i64 y.f4.f3, .int .i64 y.f5, .int .i64 i, .int .i64 y.f7.f0, .int .i64 y.f7.f1, .string y.f8.f0, .string y.f8.f1, .int .i64 y.f8.f2, .bool y.f9] : List Value) ++ qq)) 39 (0, 0))) := BQ)
                    | ((with_reducible refine gate_dst (N := 100) rfl ?_); refine wpList_load_cell rfl 4 (.tmp 99) rfl g6 8 rfl _ _ B6.out (.bool r.read) rfl _ Try.underlying4 rfl ?_)
                    | ((with_reducible refine gate_dst (N := 105) rfl ?_); refine wpList_load_p rfl 35 (.tmp 104) rfl ⟨g6, 21, none⟩ rfl [.int .i64 r.res.f0, .int .i64 r.res.f1] _ (mid_cells B6.out rfl) Try.underlying35 rfl (by kernel_rfl) ?_)
                    | ((with_reducible refine gate_store (t := 35) (p := 107) rfl ?_); refine elem_mid_event rfl 35 (.tmp 107) (.tmp 105) rfl gq (k.toNat * 16) 10 #[.int .i64 r.res.f0, .int .i64 r.res.f1] rfl rfl 39 pq _ qq LQ.out BQ.out (by show 10 + 2 ≤ 16; decide) (by kernel_rfl) (by simp [Value.oneCell']) ?_; intro v66 h_ q_; replace B6 := Lib.hid (blk_grown B6.out q_ (by intro e_; injection e_ with e_; exact NQ.out e_)); replace HB := Lib.hid (below_of_grown HB.out q_ GQ.out HB.out.size); replace BQ := Lib.hid h_; clear h_ q_; replace BQ : RowKit.Hid (v66.heap[gq]? = some (Obj.cells (List.toArray (pq ++ ([.int .i64 y.f0, .int .i64 y.f1, .bool y.f2, .string y.f3, .int .i64 y.f4.f0, .string y.f4.f1, .string y.f4.f2, .int .i64 y.f4.f3, .int .i64 y.f5, .int .i64 i, .int .i64 r.res.f0, .int .i64 r.res.f1, .string y.f8.f0, .string y.f8.f1, .int .i64 y.f8.f2, .bool y.f9] : List Value) ++ qq)) 39 (0, 0))) := BQ)
                    | (fail))
                  go_roundw
                  case rel => exact ⟨i + 1, l.set k.toNat (ansC r i y), by first | rfl | go_num, ⟨by have := PI.out; omega, by have := PI.out; omega⟩, HS, Lib.hid ⟨CQ.out _ _ (by rw [HX.out]; exact BQ.out), HB.out⟩, Lib.hid (HL2.out _ HS2.out)⟩
                  case measure => have := PI.out; simp [intOf]; omega
                | true =>
                  cases hfo : r.found with
                  | false =>
                    have HX := Lib.hid (show callL (ansC r i y) = [.int .i64 y.f0, .int .i64 y.f1, .bool y.f2, .string y.f3, .int .i64 y.f4.f0, .string y.f4.f1, .string y.f4.f2, .int .i64 y.f4.f3, .int .i64 y.f5, .int .i64 i, .int .i64 y.f7.f0, .int .i64 y.f7.f1, .string y.f8.f0, .string y.f8.f1, .int .i64 y.f8.f2, .bool y.f9] by unfold ansC; rw [if_pos hrd, if_neg (by rw [hfo]; decide)]; rfl)
                    go_wp2_with (first
                      | ((with_reducible refine gate_store (t := 3) (p := 98) rfl ?_); refine elem_cell_event rfl 3 (.tmp 98) _ rfl gq (k.toNat * 16) 9 (.int .i64 i) rfl rfl 39 pq _ qq LQ.out BQ.out (by show 9 < 16; decide) (by kernel_rfl) rfl rfl ?_; intro v58 h_ q_; replace B6 := Lib.hid (blk_grown B6.out q_ (by intro e_; injection e_ with e_; exact NQ.out e_)); replace HB := Lib.hid (below_of_grown HB.out q_ GQ.out HB.out.size); replace BQ := Lib.hid h_; clear h_ q_; replace BQ : RowKit.Hid (v58.heap[gq]? = some (Obj.cells (List.toArray (pq ++ ([.int .i64 y.f0, .int .i64 y.f1, .bool y.f2, .string y.f3, .int .i64 y.f4.f0, .string y.f4.f1, .string y.f4.f2, .int .i64 y.f4.f3, .int .i64 y.f5, .int .i64 i, .int .i64 y.f7.f0, .int .i64 y.f7.f1, .string y.f8.f0, .string y.f8.f1, .int .i64 y.f8.f2, .bool y.f9] : List Value) ++ qq)) 39 (0, 0))) := BQ)
                      | ((with_reducible refine gate_dst (N := 100) rfl ?_); refine wpList_load_cell rfl 4 (.tmp 99) rfl g6 8 rfl _ _ B6.out (.bool r.read) rfl _ Try.underlying4 rfl ?_)
                      | ((with_reducible refine gate_dst (N := 109) rfl ?_); refine wpList_load_cell rfl 4 (.tmp 108) rfl g6 26 rfl _ _ B6.out (.bool false) (by rw [← hfo]; rfl) _ Try.underlying4 rfl ?_)
                      | (fail))
                    go_roundw
                    case rel => exact ⟨i + 1, l.set k.toNat (ansC r i y), by first | rfl | go_num, ⟨by have := PI.out; omega, by have := PI.out; omega⟩, HS, Lib.hid ⟨CQ.out _ _ (by rw [HX.out]; exact BQ.out), HB.out⟩, Lib.hid (HL2.out _ HS2.out)⟩
                    case measure => have := PI.out; simp [intOf]; omega
                  | true =>
                    have HX := Lib.hid (show callL (ansC r i y) = [.int .i64 y.f0, .int .i64 y.f1, .bool y.f2, .string y.f3, .int .i64 y.f4.f0, .string y.f4.f1, .string y.f4.f2, .int .i64 y.f4.f3, .int .i64 y.f5, .int .i64 i, .int .i64 y.f7.f0, .int .i64 y.f7.f1, .string r.row.f0, .string r.row.f1, .int .i64 r.row.f2, .bool true] by unfold ansC; rw [if_pos hrd, if_pos hfo]; rfl)
                    go_upto_region 24 with (first
                      | ((with_reducible refine gate_store (t := 3) (p := 98) rfl ?_); refine elem_cell_event rfl 3 (.tmp 98) _ rfl gq (k.toNat * 16) 9 (.int .i64 i) rfl rfl 39 pq _ qq LQ.out BQ.out (by show 9 < 16; decide) (by kernel_rfl) rfl rfl ?_; intro v58 h_ q_; replace B6 := Lib.hid (blk_grown B6.out q_ (by intro e_; injection e_ with e_; exact NQ.out e_)); replace HB := Lib.hid (below_of_grown HB.out q_ GQ.out HB.out.size); replace BQ := Lib.hid h_; clear h_ q_; replace BQ : RowKit.Hid (v58.heap[gq]? = some (Obj.cells (List.toArray (pq ++ ([.int .i64 y.f0, .int .i64 y.f1, .bool y.f2, .string y.f3, .int .i64 y.f4.f0, .string y.f4.f1, .string y.f4.f2, .int .i64 y.f4.f3, .int .i64 y.f5, .int .i64 i, .int .i64 y.f7.f0, .int .i64 y.f7.f1, .string y.f8.f0, .string y.f8.f1, .int .i64 y.f8.f2, .bool y.f9] : List Value) ++ qq)) 39 (0, 0))) := BQ)
                      | ((with_reducible refine gate_dst (N := 100) rfl ?_); refine wpList_load_cell rfl 4 (.tmp 99) rfl g6 8 rfl _ _ B6.out (.bool r.read) rfl _ Try.underlying4 rfl ?_)
                      | ((with_reducible refine gate_dst (N := 109) rfl ?_); refine wpList_load_cell rfl 4 (.tmp 108) rfl g6 26 rfl _ _ B6.out (.bool true) (by rw [← hfo]; rfl) _ Try.underlying4 rfl ?_)
                      | (fail))
                    refine start_ (n := 12) (S := fun w1 => w1.heap[g6]? = some (Obj.cells (seenL r z).toArray 64 (0, 0))) (ds := []) (ar 12 0) (by kernel_rfl) rfl rfl (blk_below B6.out (below_drew1 (Below.refl _ _))) (fun hHeld => ?_); refine with_tabW rcal.tab24 rcal.bits24 (fun HT_ HW_ => ?_)
                    replace B6 := Lib.hid (blk_below B6.out (below_drew1 (Below.refl _ _)))
                    replace BQ := Lib.hid (blk_below BQ.out (below_drew1 (Below.refl _ _)))
                    replace HB := Lib.hid (below_drew1 HB.out)
                    generalize v58.drew = wz at B6 BQ HB hHeld ⊢
                    refine pure_ (i := 0) (N := (some 110)) (v := ?_) (a' := ?_) (ar 12 1) rfl rfl (any_of HT_.out (by kernel_rfl)) (fun _ _ _ h => h) (Or.inl ⟨by rfl, ?_⟩) ?_ ?_; rotate_left; (· intro w1; go_simp; with_reducible rfl); rotate_left; (· simp only [Act.put, List.setIfInBounds_toArray, List.set_cons_zero, List.set_cons_succ, i64_w, i32_w]; rfl)
                    refine pure_ (i := 1) (N := (some 111)) (v := ?_) (a' := ?_) (ar 12 2) rfl rfl (any_of HT_.out (by kernel_rfl)) (fun _ _ _ h => h) (Or.inl ⟨by rfl, ?_⟩) ?_ ?_; rotate_left; (· intro w1; go_simp; with_reducible rfl); rotate_left; (· simp only [Act.put, List.setIfInBounds_toArray, List.set_cons_zero, List.set_cons_succ, i64_w, i32_w]; rfl)
                    refine pure_ (i := 2) (N := (some 112)) (v := ?_) (a' := ?_) (ar 12 3) rfl rfl (any_of HT_.out (by kernel_rfl)) (fun _ _ _ h => h) (Or.inl ⟨by rfl, ?_⟩) ?_ ?_; rotate_left; (· intro w1; go_simp; with_reducible rfl); rotate_left; (· simp only [Act.put, List.setIfInBounds_toArray, List.set_cons_zero, List.set_cons_succ, i64_w, i32_w]; rfl)
                    refine pure_ (i := 3) (N := (some 113)) (v := ?_) (a' := ?_) (ar 12 4) rfl rfl (any_of HT_.out (by kernel_rfl)) (fun _ _ _ h => h) (Or.inl ⟨by rfl, ?_⟩) ?_ ?_; rotate_left; (· intro w1; go_simp; with_reducible rfl); rotate_left; (· simp only [Act.put, List.setIfInBounds_toArray, List.set_cons_zero, List.set_cons_succ, i64_w, i32_w]; rfl)
                    refine pure_ (i := 4) (N := (some 114)) (v := ?_) (a' := ?_) (ar 12 5) rfl rfl (any_of HT_.out (by kernel_rfl)) (fun _ _ _ h => h) (Or.inl ⟨by rfl, ?_⟩) ?_ ?_; rotate_left; (· intro w1; go_simp; with_reducible rfl); rotate_left; (· simp only [Act.put, List.setIfInBounds_toArray, List.set_cons_zero, List.set_cons_succ, i64_w, i32_w]; rfl)
                    refine take_ (i := 5) (N := (some 115)) (v := .agg #[.string r.row.f0, .string r.row.f1, .int .i64 r.row.f2]) (a' := ?_) (ar 12 6) rfl rfl (take_ofW HT_.out HW_.out (by kernel_rfl)) (fun _ _ _ h => h) (Or.inl ⟨by rfl, fun w1 hs1 => exec_load_p 37 (.tmp 114) rfl ⟨g6, 23, none⟩ rfl [.string r.row.f0, .string r.row.f1, .int .i64 r.row.f2] _ (mid_cells hs1 rfl) Try.underlying37 rfl (by kernel_rfl)⟩) hHeld ?_ ?_; rotate_left; (· simp only [Act.put, List.setIfInBounds_toArray, List.set_cons_zero, List.set_cons_succ, i64_w, i32_w]; rfl)
                    refine pure_ (i := 6) (N := (some 116)) (v := ?_) (a' := ?_) (ar 12 7) rfl rfl (any_of HT_.out (by kernel_rfl)) (fun _ _ _ h => h) (Or.inl ⟨by rfl, ?_⟩) ?_ ?_; rotate_left; (· intro w1; go_simp; with_reducible rfl); rotate_left; (· simp only [Act.put, List.setIfInBounds_toArray, List.set_cons_zero, List.set_cons_succ, i64_w, i32_w]; rfl)
                    refine pure_ (i := 7) (N := (some 117)) (v := ?_) (a' := ?_) (ar 12 8) rfl rfl (any_of HT_.out (by kernel_rfl)) (fun _ _ _ h => h) (Or.inl ⟨by rfl, ?_⟩) ?_ ?_; rotate_left; (· intro w1; go_simp; with_reducible rfl); rotate_left; (· simp only [Act.put, List.setIfInBounds_toArray, List.set_cons_zero, List.set_cons_succ, i64_w, i32_w]; rfl)
                    refine one_ (i := 8) (N := none) (ar 12 9) rfl rfl (one_of HT_.out (by kernel_rfl)) (by decide) (fun K hK => ?_); refine wp_elem_cell 4 (.tmp 117) _ rfl gq (k.toNat * 16) 15 (.bool true) rfl rfl 39 pq _ qq LQ.out BQ.out (by show 15 < 16; decide) (by kernel_rfl) rfl rfl ?_; intro v74 h_ q_; replace B6 := Lib.hid (blk_grown B6.out q_ (by intro e_; injection e_ with e_; exact NQ.out e_)); replace HB := Lib.hid (below_of_grown HB.out q_ GQ.out HB.out.size); replace BQ := Lib.hid h_; clear h_ q_; replace BQ : RowKit.Hid (v74.heap[gq]? = some (Obj.cells (List.toArray (pq ++ ([.int .i64 y.f0, .int .i64 y.f1, .bool y.f2, .string y.f3, .int .i64 y.f4.f0, .string y.f4.f1, .string y.f4.f2, .int .i64 y.f4.f3, .int .i64 y.f5, .int .i64 i, .int .i64 y.f7.f0, .int .i64 y.f7.f1, .string y.f8.f0, .string y.f8.f1, .int .i64 y.f8.f2, .bool true] : List Value) ++ qq)) 39 (0, 0))) := BQ; refine hK.out _ _ B6.out (fun hHeld => ?_); clear hK K
                    refine pure_ (i := 9) (N := (some 118)) (v := ?_) (a' := ?_) (ar 12 10) rfl rfl (any_of HT_.out (by kernel_rfl)) (fun _ _ _ h => h) (Or.inl ⟨by rfl, ?_⟩) ?_ ?_; rotate_left; (· intro w1; go_simp; with_reducible rfl); rotate_left; (· simp only [Act.put, List.setIfInBounds_toArray, List.set_cons_zero, List.set_cons_succ, i64_w, i32_w]; rfl)
                    refine pure_ (i := 10) (N := (some 119)) (v := ?_) (a' := ?_) (ar 12 11) rfl rfl (any_of HT_.out (by kernel_rfl)) (fun _ _ _ h => h) (Or.inl ⟨by rfl, ?_⟩) ?_ ?_; rotate_left; (· intro w1; go_simp; with_reducible rfl); rotate_left; (· simp only [Act.put, List.setIfInBounds_toArray, List.set_cons_zero, List.set_cons_succ, i64_w, i32_w]; rfl)
                    refine one_ (i := 11) (N := none) (ar 12 12) rfl rfl (one_of HT_.out (by kernel_rfl)) (by decide) (fun K hK => ?_); refine wp_elem_mid 37 (.tmp 119) (.tmp 115) rfl gq (k.toNat * 16) 12 #[.string r.row.f0, .string r.row.f1, .int .i64 r.row.f2] rfl rfl 39 pq _ qq LQ.out BQ.out (by show 12 + 3 ≤ 16; decide) (by kernel_rfl) (by simp [Value.oneCell']) ?_; intro v76 h_ q_; replace B6 := Lib.hid (blk_grown B6.out q_ (by intro e_; injection e_ with e_; exact NQ.out e_)); replace HB := Lib.hid (below_of_grown HB.out q_ GQ.out HB.out.size); replace BQ := Lib.hid h_; clear h_ q_; replace BQ : RowKit.Hid (v76.heap[gq]? = some (Obj.cells (List.toArray (pq ++ ([.int .i64 y.f0, .int .i64 y.f1, .bool y.f2, .string y.f3, .int .i64 y.f4.f0, .string y.f4.f1, .string y.f4.f2, .int .i64 y.f4.f3, .int .i64 y.f5, .int .i64 i, .int .i64 y.f7.f0, .int .i64 y.f7.f1, .string r.row.f0, .string r.row.f1, .int .i64 r.row.f2, .bool true] : List Value) ++ qq)) 39 (0, 0))) := BQ; refine hK.out _ _ B6.out (fun hHeld => ?_); clear hK K
                    refine done_ (done_of HT_.out (by kernel_rfl)) ?_
                    go_wp2
                    go_roundw
                    case rel => exact ⟨i + 1, l.set k.toNat (ansC r i y), by first | rfl | go_num, ⟨by have := PI.out; omega, by have := PI.out; omega⟩, HS, Lib.hid ⟨CQ.out _ _ (by rw [HX.out]; exact BQ.out), HB.out⟩, Lib.hid (HL2.out _ HS2.out)⟩
                    case measure => have := PI.out; simp [intOf]; omega
        · have kb2 : (r.kind == 2) = false := by simpa using hk2
          have HS2 := Lib.hid (show stepW lstI i r l = some l by unfold stepW; rw [if_neg hk1, if_neg hk2])
          have HS := Lib.hid (show fin = runW lstI (rows.drop (i + 1).toNat) (i + 1) l by rw [HO2.out, HS2.out])
          clear hk1 hk2 HO2
          go_wp2_with (first
            | ((with_reducible refine gate_dst (N := 19) rfl ?_); refine wpList_load_p rfl 64 (.tmp 18) rfl (ad.add (i.toNat * 34)) rfl (seenL r z) _ RK.out Try.underlying64 rfl (by kernel_rfl) ?_)
            | ((with_reducible refine gate_dst (N := 6) rfl ?_); refine box_event rfl (N := 6) rfl (cs := #[.int .i64 0, .int .i64 0, .int .i64 0, .int .i64 0, .int .i64 0, .int .i64 0, .int .i64 0, .int .i64 0, .bool false, .string ⟨#[]⟩, .int .i64 0, .string ⟨#[]⟩, .string ⟨#[]⟩, .int .i64 0, .int .i64 0, .int .i64 0, .int .i64 0, .int .i64 0, .string ⟨#[]⟩, .string ⟨#[]⟩, .int .i64 0, .int .i64 0, .int .i64 0, .string ⟨#[]⟩, .string ⟨#[]⟩, .int .i64 0, .bool false, .int .i64 0, .slice none 0 0, .int .i64 0, .slice none 0 0, .int .i64 0, .int .i64 0, .slice none 0 0]) (t := 64) (by first | (go_simp; done) | (go_simp; rfl)) ?_; intro g6 e6 w6 h6 b6; have L6 := Lib.hid (Nat.le_trans HB.out.size (Nat.le_of_eq e6.symm)); have V6 := Lib.hid (show some g6 ≠ Value.ownBlock (Value.slice A' l.length c') from fun e => by have := (Kd.R_lt RV.out _ e.symm); omega); replace HB := Lib.hid (below_step HB.out b6); replace RV := Lib.hid (Kd.R_below RV.out b6); have B6 := Lib.hid h6; clear h6 b6 e6)
            | ((with_reducible refine gate_store (t := 64) (p := 6) rfl ?_); refine store_row_event rfl 64 (.tmp 6) (.tmp 19) rfl g6 (seenL r z).toArray rfl rfl 64 _ B6.out (by kernel_rfl) rfl (SZ.out) ?_; intro v6 h_ q_; replace HB := Lib.hid (below_of_grown HB.out q_ L6.out HB.out.size); replace RV := Lib.hid (Kd.R_grown1 RV.out rfl q_ V6.out); replace B6 := Lib.hid h_; clear h_ q_)
            | ((with_reducible refine gate_dst (N := 21) rfl ?_); refine wpList_load_cell rfl 51 (.tmp 20) rfl g6 0 rfl _ _ B6.out (.int .i64 r.kind) rfl _ Try.underlying51 rfl ?_)
            | ((with_reducible refine gate_dst (N := 47) rfl ?_); refine wpList_load_cell rfl 51 (.tmp 46) rfl g6 0 rfl _ _ B6.out (.int .i64 r.kind) rfl _ Try.underlying51 rfl ?_)
            | (fail))
          go_roundw
          case rel => exact ⟨i + 1, l, by first | rfl | go_num, ⟨by have := PI.out; omega, by have := PI.out; omega⟩, HS, Lib.hid ⟨RV.out, HB.out⟩, Lib.hid (HL2.out _ HS2.out)⟩
          case measure => have := PI.out; simp [intOf]; omega
    · have hnl : decide (i < (rows.length : Int)) = false := decide_eq_false hlt
      have ei : i = (rows.length : Int) := by omega
      subst ei
      have HF := Lib.hid (show fin = some l by rw [HO.out, Int.toNat_natCast, List.drop_length]; rfl)
      have HLB := Lib.hid (show l.length ≤ 140737488351232 by have h1 := HL.out.1; have h2 := HN.out; omega)
      rcases ref_two l with he | he
      · have HCH := Lib.hid (HCHK.out A' c' l 0 wr CL.out.2 CL.out.1 HLB.out he)
        have HE := Lib.hid (show outW refF fin = (l, 0) by rw [HF.out]; show (if refF l = 0 then (l, (0 : Int)) else ([], 260)) = _; rw [if_pos he])
        have RV := Lib.hid HRB.out.1
        have HB := Lib.hid HRB.out.2
        clear i0 i1 hlt HRB he
        go_wp2_with (first
          | (go_at_call 17; (with_reducible refine HCH.out.mono ?_); rintro e_ W_ ⟨rfl, hb⟩; replace HB := Lib.hid (below_step HB.out hb); replace RV := Lib.hid (Kd.R_below RV.out hb); clear hb)
          | (fail))
        go_ret2
        exact cal_to HE.out RV.out HB.out
      · have HCH := Lib.hid (HCHK.out A' c' l 260 wr CL.out.2 CL.out.1 HLB.out he)
        have HE := Lib.hid (show outW refF fin = ([], 260) by rw [HF.out]; show (if refF l = 0 then (l, (0 : Int)) else ([], 260)) = _; rw [if_neg (by rw [he]; decide)])
        have HB := Lib.hid HRB.out.2
        clear i0 i1 hlt HRB he
        go_wp2_with (first
          | (go_at_call 17; (with_reducible refine HCH.out.mono ?_); rintro e_ W_ ⟨rfl, hb⟩; replace HB := Lib.hid (below_step HB.out hb); clear hb)
          | (fail))
        go_ret2
        exact cal_to HE.out (Kd.R_nil _ _ _ _ _) HB.out
end Go.Proofs.Ytbakmkoppieelaa.PLinearChecks

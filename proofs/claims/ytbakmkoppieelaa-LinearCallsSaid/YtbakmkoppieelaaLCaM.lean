/- What is proved: the program's Calls of any rows; the conditions stand in the theorem. -/
import Derived.Test.YtbakmkoppieelaaLCaC
namespace Go.Proofs.Ytbakmkoppieelaa.PLinearChecks
open Go.RowKit Go.Proofs.YtbakmkoppieelaaW.PrintWords Go.Proofs.YtbakmkoppieelaaW.PrintLast Go.Proofs.YtbakmkoppieelaaW.PrintMore
set_option linter.unusedVariables false
set_option linter.unusedSimpArgs false
theorem seen_one (r : Ask) (z : Nat → Value) (hz : ∀ k, (z k).oneCell' = true) : (seenL r z).toArray.all (·.oneCell') = true := by
  rw [List.all_toArray]
  simp only [seenL, List.all_cons, List.all_nil, hz, Bool.true_and, Bool.and_true]
  rfl
theorem wf_small {i : Int} (h0 : 0 ≤ i) (h1 : i ≤ 1000000000000) : (Lit.int .i64 i).wf = true := by
  have e1 : IntKind.i64.min = -9223372036854775808 := by decide
  have e2 : IntKind.i64.max = 9223372036854775807 := by decide
  show (decide (IntKind.i64.min ≤ i) && decide (i ≤ IntKind.i64.max)) = true
  rw [e1, e2, decide_eq_true (show (-9223372036854775808 : Int) ≤ i by omega), decide_eq_true (show i ≤ (9223372036854775807 : Int) by omega)]
  rfl
theorem fst_range (p : S39 → Bool) (l : List S39) (h : ¬ fstI p l < 0) : 0 ≤ fstI p l ∧ fstI p l < (l.length : Int) := by
  unfold fstI at h ⊢
  rcases fstK_at p l 0 with ⟨h1, _⟩ | ⟨k, h1, h2, _⟩
  · rw [h1] at h; exact absurd (by decide) h
  · rw [h2]; omega
/-- What Calls answers, of whichever way. -/
def CalTo (w : World) (p : List S39 × Int) (e : Ending) (w' : World) : Prop := ∃ v, e = .returned (.tuple #[v, .int .i64 p.2]) ∧ Kd.R k39 39 w' w.heap.size (fun _ => True) v p.1 ∧ Below w.heap.size w w'
theorem cal_to {w w' : World} {p : List S39 × Int} {v : Value} {xs : List S39} {n : Int} (h : p = (xs, n)) (h1 : Kd.R k39 39 w' w.heap.size (fun _ => True) v xs) (h2 : Below w.heap.size w w') : CalTo w p (.returned (.tuple #[v, .int .i64 n])) w' := by
  subst h
  exact ⟨v, rfl, h1, h2⟩
theorem own_cells {base : Nat} {W W' : World} {v : Value} {l : List S39} (h : Kd.R k39 39 W base (fun _ => True) v l) : ∃ A c, v = .slice A l.length c ∧ l.length ≤ c ∧ Kd.C k39 W A l.length l := Kd.R_reads h
theorem mid_cells {W : World} {g t : Nat} {cs : Array Value} {o : Nat} {m : List Value} (h : W.heap[g]? = some (.cells cs t (0, 0))) (hm : (cs.toList.drop o).take m.length = m) : ∀ j v, m[j]? = some v → W.cell? ((⟨g, o, none⟩ : Addr).add j) = some v := by
  intro j v hj
  have h1 : ((⟨g, o, none⟩ : Addr).add j) = ⟨g, o + j, none⟩ := by simp [Addr.add]
  rw [h1, blk_cell h, ← hj]
  have hlt : j < m.length := (List.getElem?_eq_some_iff.mp hj).1
  conv => rhs; rw [← hm]
  rw [List.getElem?_take, if_pos hlt, List.getElem?_drop, ← Array.getElem?_toList]
def cal.T20 : Bool × List (List Nat × List Nat) := (true, [([], []), ([], []), ([], []), ([2], [2]), ([0, 0], [0]), ([4, 0], [4]), ([5, 0], [5]), ([1, 0, 1, 2, 3, 4, 5, 6], [1]), ([7, 0, 1, 2, 3, 4, 5, 6], [7]), ([8, 3, 6, 0, 1, 2, 3, 4, 5, 6], [3, 8])])
def cal.B20 : List Nat := [0, 0, 0, 4, 1, 17, 49, 127, 255, 511]
theorem cal.tab20 : rtab .any (opsOf Try.f27 20) = cal.T20 := by kernel_rfl
theorem cal.bits20 : waitsOk cal.T20.2 cal.B20 = true := by kernel_rfl
set_option maxRecDepth 100000 in
set_option maxHeartbeats 8000000 in
theorem calls_any (w : World) (A : Option Addr) (c : Nat) (rows : List Ask) (hr : RS w A rows) (hc : rows.length ≤ c) (hn : rows.length * 168 ≤ 140737488351232) :
    Calls Try.prog 27 #[.slice A rows.length c] w fun e w' => CalTo w (outW refF (runW fstI rows 0 [])) e w' := by
  have HR := Lib.hid hr
  have HC := Lib.hid hc
  have HN := Lib.hid hn
  have HCHK := Lib.hid (fun A c l r (W : World) hr hc (hn : l.length ≤ 1000000000000) (hwf : ∀ x ∈ l, wfC x) (h : refF l = r) => linear_Check.calls A c l r W hr hc (by unfold linear_Check.f; rw [if_pos ⟨hn, hwf⟩, h]))
  clear hr hc hn
  obtain ⟨fin, hfin⟩ : ∃ q, RowKit.Hid (runW fstI rows 0 [] = q) := ⟨_, Lib.hid rfl⟩
  rw [hfin.out]
  go_enter Try.func27, Try.ntmps27
  go_wp2
  go_loopw [4, 13] (fun v4 v13 wr => ∃ (i : Int) (l : List S39), v13 = .int .i64 i ∧ (0 ≤ i ∧ i ≤ (rows.length : Int)) ∧ RowKit.Hid (fin = runW fstI (rows.drop i.toNat) i l) ∧ RowKit.Hid (Kd.R k39 39 wr w.heap.size (fun _ => True) v4 l ∧ Below w.heap.size w wr) ∧ RowKit.Hid (l.length ≤ i.toNat ∧ ∀ x ∈ l, wfC x)) (fun _ v13 _ => ((rows.length : Int) - intOf v13).toNat)
  case atStart => exact ⟨0, [], rfl, ⟨by omega, by omega⟩, Lib.hid hfin.out.symm, Lib.hid ⟨Kd.R_nil _ _ _ _ _, Below.refl _ _⟩, Lib.hid ⟨Nat.zero_le _, fun x hx => by cases hx⟩⟩
  case round =>
    obtain ⟨i, l, rfl, ⟨i0, i1⟩, HO, HRB, HL⟩ := hrel
    obtain ⟨A', c', rfl, hc', hC'⟩ := own_cells (W' := wr) HRB.out.1
    have CL := Lib.hid (And.intro hc' hC')
    clear hc' hC'
    by_cases hlt : i < (rows.length : Int)
    · have c1 : decide (i < (rows.length : Int)) = true := decide_eq_true hlt
      have PI := Lib.hid (show 0 ≤ i ∧ i < (rows.length : Int) ∧ i.toNat < rows.length by omega)
      have pI := eq_true i0
      have qI := eq_true hlt
      have wi : wrap64 (i + 1) = i + 1 := by have h2 := HN.out; unfold wrap64; omega
      have wi2 : IntKind.i64.wrap (i + 1) = i + 1 := (i64_w _).trans wi
      obtain ⟨ad, z, eA, zo, RK⟩ := HR.out wr HRB.out.2 i.toNat PI.out.2.2
      cases eA
      have HD := Lib.hid (runW_drop (f := fstI) PI.out.2.2 l)
      obtain ⟨r, er⟩ : ∃ r, rows[i.toNat]'PI.out.2.2 = r := ⟨_, rfl⟩
      rw [er] at RK HD
      have RK := Lib.hid RK
      have RV := Lib.hid HRB.out.1
      have HB := Lib.hid HRB.out.2
      have SZ := Lib.hid (seen_one r z zo)
      have HW := Lib.hid (show (Lit.int .i64 i).wf = true by have h2 := HN.out; have h3 := PI.out; exact wf_small (by omega) (by omega))
      have HL2 := Lib.hid (fun (l2 : List S39) (hs : stepW fstI i r l = some l2) => (show l2.length ≤ (i + 1).toNat ∧ ∀ x ∈ l2, wfC x from ⟨by have h1 := step_len hs; have h2 := HL.out.1; have h3 := PI.out; omega, step_wf HW.out HL.out.2 hs⟩))
      have HO2 := Lib.hid (show fin = match stepW fstI i r l with | none => none | some l2 => runW fstI (rows.drop (i + 1).toNat) (i + 1) l2 by
        have h1 := HD.out
        have h2 : ((i.toNat : Nat) : Int) = i := by have h3 := PI.out; omega
        have h4 : ((i.toNat + 1 : Nat) : Int) = i + 1 := by have h3 := PI.out; omega
        have h5 : (i + 1).toNat = i.toNat + 1 := by have h3 := PI.out; omega
        rw [h2, h4] at h1
        rw [HO.out, h1, h5]
        cases stepW fstI i r l <;> rfl)
      clear i0 i1 hlt HRB er zo HD
      by_cases hk1 : r.kind = 1
      · have kb1 : (r.kind == 1) = true := by rw [hk1]; rfl
        have HS2 := Lib.hid (show stepW fstI i r l = some (l ++ [askC r i]) by unfold stepW; rw [if_pos hk1])
        have HS := Lib.hid (show (match stepW fstI i r l with | none => none | some l2 => runW fstI (rows.drop (i + 1).toNat) (i + 1) l2) = runW fstI (rows.drop (i + 1).toNat) (i + 1) (l ++ [askC r i]) by rw [HS2.out])
        have HO := HO2
        clear hk1 HO2
        cases hrd : r.read with
        | true =>
            have HX := Lib.hid (show callL (askC r i) = [.int .i64 r.client, .int .i64 r.number, .bool true, .string r.key, .int .i64 r.op.f0, .string r.op.f1, .string r.op.f2, .int .i64 r.op.f3, .int .i64 i, .int .i64 (-1), .int .i64 0, .int .i64 0, .string ⟨#[]⟩, .string ⟨#[]⟩, .int .i64 0, .bool false] by unfold askC; rw [if_pos hrd, hrd]; rfl)
            have hrb : r.read = true := hrd
            clear hrd
            go_wp2_with (first
              | ((with_reducible refine gate_dst (N := 17) rfl ?_); refine wpList_load_p rfl 64 (.tmp 16) rfl (ad.add (i.toNat * 34)) rfl (seenL r z) _ RK.out Try.underlying64 rfl (by kernel_rfl) ?_)
              | ((with_reducible refine gate_dst (N := 6) rfl ?_); refine box_event rfl (N := 6) rfl (cs := #[.int .i64 0, .int .i64 0, .int .i64 0, .int .i64 0, .int .i64 0, .int .i64 0, .int .i64 0, .int .i64 0, .bool false, .string ⟨#[]⟩, .int .i64 0, .string ⟨#[]⟩, .string ⟨#[]⟩, .int .i64 0, .int .i64 0, .int .i64 0, .int .i64 0, .int .i64 0, .string ⟨#[]⟩, .string ⟨#[]⟩, .int .i64 0, .int .i64 0, .int .i64 0, .string ⟨#[]⟩, .string ⟨#[]⟩, .int .i64 0, .bool false, .int .i64 0, .slice none 0 0, .int .i64 0, .slice none 0 0, .int .i64 0, .int .i64 0, .slice none 0 0]) (t := 64) (by first | (go_simp; done) | (go_simp; rfl)) ?_; intro g6 e6 w6 h6 b6; have L6 := Lib.hid (Nat.le_trans HB.out.size (Nat.le_of_eq e6.symm)); have V6 := Lib.hid (show some g6 ≠ Value.ownBlock (Value.slice A' l.length c') from fun e => by have := (Kd.R_lt RV.out _ e.symm); omega); replace HB := Lib.hid (below_step HB.out b6); replace RV := Lib.hid (Kd.R_below RV.out b6); have B6 := Lib.hid h6; clear h6 b6 e6)
              | ((with_reducible refine gate_store (t := 64) (p := 6) rfl ?_); refine store_row_event rfl 64 (.tmp 6) (.tmp 17) rfl g6 (seenL r z).toArray rfl rfl 64 _ B6.out (by kernel_rfl) rfl (SZ.out) ?_; intro v6 h_ q_; replace HB := Lib.hid (below_of_grown HB.out q_ L6.out HB.out.size); replace RV := Lib.hid (Kd.R_grown1 RV.out rfl q_ V6.out); replace B6 := Lib.hid h_; clear h_ q_)
              | ((with_reducible refine gate_dst (N := 19) rfl ?_); refine wpList_load_cell rfl 51 (.tmp 18) rfl g6 0 rfl _ _ B6.out (.int .i64 r.kind) rfl _ Try.underlying51 rfl ?_)
              | ((with_reducible refine gate_dst (N := 23) rfl ?_); refine wpList_load_cell rfl 3 (.tmp 22) rfl g6 3 rfl _ _ B6.out (.int .i64 r.client) rfl _ Try.underlying3 rfl ?_)
              | ((with_reducible refine gate_dst (N := 25) rfl ?_); refine wpList_load_cell rfl 3 (.tmp 24) rfl g6 4 rfl _ _ B6.out (.int .i64 r.number) rfl _ Try.underlying3 rfl ?_)
              | ((with_reducible refine gate_dst (N := 27) rfl ?_); refine wpList_load_cell rfl 4 (.tmp 26) rfl g6 8 rfl _ _ B6.out (.bool r.read) rfl _ Try.underlying4 rfl ?_)
              | ((with_reducible refine gate_dst (N := 29) rfl ?_); refine wpList_load_cell rfl 9 (.tmp 28) rfl g6 9 rfl _ _ B6.out (.string r.key) rfl _ Try.underlying9 rfl ?_)
              | ((with_reducible refine gate_dst (N := 31) rfl ?_); refine wpList_load_p rfl 32 (.tmp 30) rfl ⟨g6, 10, none⟩ rfl [.int .i64 r.op.f0, .string r.op.f1, .string r.op.f2, .int .i64 r.op.f3] _ (mid_cells B6.out rfl) Try.underlying32 rfl (by kernel_rfl) ?_)
              | ((with_reducible refine gate_dst (N := 7) rfl ?_); refine box_event rfl (N := 7) rfl (cs := #[.int .i64 0, .int .i64 0, .bool false, .string ⟨#[]⟩, .int .i64 0, .string ⟨#[]⟩, .string ⟨#[]⟩, .int .i64 0, .int .i64 0, .int .i64 0, .int .i64 0, .int .i64 0, .string ⟨#[]⟩, .string ⟨#[]⟩, .int .i64 0, .bool false]) (t := 39) (by first | (go_simp; done) | (go_simp; rfl)) ?_; intro g7 e7 w7 h7 b7; have L7 := Lib.hid (Nat.le_trans HB.out.size (Nat.le_of_eq e7.symm)); have V7 := Lib.hid (show some g7 ≠ Value.ownBlock (Value.slice A' l.length c') from fun e => by have := (Kd.R_lt RV.out _ e.symm); omega); have N67 := Lib.hid (Nat.ne_of_lt (Nat.lt_of_lt_of_eq (blk_lt B6.out) e7.symm)); replace B6 := Lib.hid (blk_below B6.out b7); replace HB := Lib.hid (below_step HB.out b7); replace RV := Lib.hid (Kd.R_below RV.out b7); have B7 := Lib.hid h7; clear h7 b7 e7)
              | ((with_reducible refine gate_store (t := 39) (p := 7) rfl ?_); refine store_row_event rfl 39 (.tmp 7) (.tmp 33) rfl g7 #[.int .i64 r.client, .int .i64 r.number, .bool true, .string r.key, .int .i64 r.op.f0, .string r.op.f1, .string r.op.f2, .int .i64 r.op.f3, .int .i64 i, .int .i64 (-1), .int .i64 0, .int .i64 0, .string ⟨#[]⟩, .string ⟨#[]⟩, .int .i64 0, .bool false] rfl rfl 39 _ B7.out (by kernel_rfl) rfl (by simp [Value.oneCell']) ?_; intro v7 h_ q_; replace B6 := Lib.hid (blk_grown B6.out q_ (by intro e_; injection e_ with e_; exact N67.out e_)); replace HB := Lib.hid (below_of_grown HB.out q_ L7.out HB.out.size); replace RV := Lib.hid (Kd.R_grown1 RV.out rfl q_ V7.out); replace B7 := Lib.hid h_; clear h_ q_)
              | ((with_reducible refine gate_dst (N := 35) rfl ?_); refine wpList_load_cell rfl 4 (.tmp 34) rfl g6 8 rfl _ _ B6.out (.bool r.read) rfl _ Try.underlying4 rfl ?_)
              | ((with_reducible refine gate_dst (N := 42) rfl ?_); refine wpList_load_row rfl 39 (.tmp 7) rfl g7 rfl 39 #[.int .i64 r.client, .int .i64 r.number, .bool true, .string r.key, .int .i64 r.op.f0, .string r.op.f1, .string r.op.f2, .int .i64 r.op.f3, .int .i64 i, .int .i64 (-1), .int .i64 0, .int .i64 0, .string ⟨#[]⟩, .string ⟨#[]⟩, .int .i64 0, .bool false] (0, 0) _ B7.out Try.underlying39 rfl (by kernel_rfl) ?_)
              | (at_builtin; refine Kd.R_append_rows k39 (Rr := k39.K (World.alloc v7 (.cells #[.int .i64 r.client, .int .i64 r.number, .bool true, .string r.key, .int .i64 r.op.f0, .string r.op.f1, .string r.op.f2, .int .i64 r.op.f3, .int .i64 i, .int .i64 (-1), .int .i64 0, .int .i64 0, .string ⟨#[]⟩, .string ⟨#[]⟩, .int .i64 0, .bool false] 39))) (w0 := w) w.heap.size rfl (.tmp 41) (.tmp 43) 22 39 (.agg #[.int .i64 0, .int .i64 0, .bool false, .string ⟨#[]⟩, .int .i64 0, .string ⟨#[]⟩, .string ⟨#[]⟩, .int .i64 0, .int .i64 0, .int .i64 0, .int .i64 0, .int .i64 0, .string ⟨#[]⟩, .string ⟨#[]⟩, .int .i64 0, .bool false]) 168 rfl Try.underlying22 info39 rfl (by decide) (by decide) (Value.slice A' l.length c') l [askC r i] (some ⟨World.heap v7 |>.size, 0, none⟩) 1 1 (fun _ => True) (fun _ => False) rfl rfl (Kd.R_alloc RV.out _) (by have h := one_C v7 (askC r i); rw [HX.out] at h; exact h) (fun x cs h => by rw [k39_open h]; exact k39_mkM _ _ _ x) (fun _ h => h.elim) (fun _ _ => trivial) (HB.out.alloc HB.out.size _) (by have := HB.out.size; simp; omega) (by have h1 := HN.out; have h2 := PI.out; have h3 := HL.out.1; have h4 : ([askC r i] : List S39).length = 1 := rfl; omega) ?_; intro v2 w2 hR2 hb2 hg2 hat2; have R2 := Lib.hid hR2; have HB2 := Lib.hid hb2; clear hR2 hb2 hg2 hat2)
              | (fail))
            go_roundw
            case rel => exact ⟨i + 1, l ++ [askC r i], by first | rfl | go_num, ⟨by have := PI.out; omega, by have := PI.out; omega⟩, Lib.hid (by rw [HO.out, HS.out]), Lib.hid ⟨R2.out, HB2.out⟩, Lib.hid (HL2.out _ HS2.out)⟩
            case measure => have := PI.out; simp [intOf]; omega
        | false =>
            have HX := Lib.hid (show callL (askC r i) = [.int .i64 r.client, .int .i64 r.number, .bool false, .string r.op.f1, .int .i64 r.op.f0, .string r.op.f1, .string r.op.f2, .int .i64 r.op.f3, .int .i64 i, .int .i64 (-1), .int .i64 0, .int .i64 0, .string ⟨#[]⟩, .string ⟨#[]⟩, .int .i64 0, .bool false] by unfold askC; rw [hrd, if_neg (by decide)]; rfl)
            have hrb : r.read = false := hrd
            clear hrd
            go_wp2_with (first
              | ((with_reducible refine gate_dst (N := 17) rfl ?_); refine wpList_load_p rfl 64 (.tmp 16) rfl (ad.add (i.toNat * 34)) rfl (seenL r z) _ RK.out Try.underlying64 rfl (by kernel_rfl) ?_)
              | ((with_reducible refine gate_dst (N := 6) rfl ?_); refine box_event rfl (N := 6) rfl (cs := #[.int .i64 0, .int .i64 0, .int .i64 0, .int .i64 0, .int .i64 0, .int .i64 0, .int .i64 0, .int .i64 0, .bool false, .string ⟨#[]⟩, .int .i64 0, .string ⟨#[]⟩, .string ⟨#[]⟩, .int .i64 0, .int .i64 0, .int .i64 0, .int .i64 0, .int .i64 0, .string ⟨#[]⟩, .string ⟨#[]⟩, .int .i64 0, .int .i64 0, .int .i64 0, .string ⟨#[]⟩, .string ⟨#[]⟩, .int .i64 0, .bool false, .int .i64 0, .slice none 0 0, .int .i64 0, .slice none 0 0, .int .i64 0, .int .i64 0, .slice none 0 0]) (t := 64) (by first | (go_simp; done) | (go_simp; rfl)) ?_; intro g6 e6 w6 h6 b6; have L6 := Lib.hid (Nat.le_trans HB.out.size (Nat.le_of_eq e6.symm)); have V6 := Lib.hid (show some g6 ≠ Value.ownBlock (Value.slice A' l.length c') from fun e => by have := (Kd.R_lt RV.out _ e.symm); omega); replace HB := Lib.hid (below_step HB.out b6); replace RV := Lib.hid (Kd.R_below RV.out b6); have B6 := Lib.hid h6; clear h6 b6 e6)
              | ((with_reducible refine gate_store (t := 64) (p := 6) rfl ?_); refine store_row_event rfl 64 (.tmp 6) (.tmp 17) rfl g6 (seenL r z).toArray rfl rfl 64 _ B6.out (by kernel_rfl) rfl (SZ.out) ?_; intro v6 h_ q_; replace HB := Lib.hid (below_of_grown HB.out q_ L6.out HB.out.size); replace RV := Lib.hid (Kd.R_grown1 RV.out rfl q_ V6.out); replace B6 := Lib.hid h_; clear h_ q_)
              | ((with_reducible refine gate_dst (N := 19) rfl ?_); refine wpList_load_cell rfl 51 (.tmp 18) rfl g6 0 rfl _ _ B6.out (.int .i64 r.kind) rfl _ Try.underlying51 rfl ?_)
              | ((with_reducible refine gate_dst (N := 23) rfl ?_); refine wpList_load_cell rfl 3 (.tmp 22) rfl g6 3 rfl _ _ B6.out (.int .i64 r.client) rfl _ Try.underlying3 rfl ?_)
              | ((with_reducible refine gate_dst (N := 25) rfl ?_); refine wpList_load_cell rfl 3 (.tmp 24) rfl g6 4 rfl _ _ B6.out (.int .i64 r.number) rfl _ Try.underlying3 rfl ?_)
              | ((with_reducible refine gate_dst (N := 27) rfl ?_); refine wpList_load_cell rfl 4 (.tmp 26) rfl g6 8 rfl _ _ B6.out (.bool r.read) rfl _ Try.underlying4 rfl ?_)
              | ((with_reducible refine gate_dst (N := 29) rfl ?_); refine wpList_load_cell rfl 9 (.tmp 28) rfl g6 9 rfl _ _ B6.out (.string r.key) rfl _ Try.underlying9 rfl ?_)
              | ((with_reducible refine gate_dst (N := 31) rfl ?_); refine wpList_load_p rfl 32 (.tmp 30) rfl ⟨g6, 10, none⟩ rfl [.int .i64 r.op.f0, .string r.op.f1, .string r.op.f2, .int .i64 r.op.f3] _ (mid_cells B6.out rfl) Try.underlying32 rfl (by kernel_rfl) ?_)
              | ((with_reducible refine gate_dst (N := 7) rfl ?_); refine box_event rfl (N := 7) rfl (cs := #[.int .i64 0, .int .i64 0, .bool false, .string ⟨#[]⟩, .int .i64 0, .string ⟨#[]⟩, .string ⟨#[]⟩, .int .i64 0, .int .i64 0, .int .i64 0, .int .i64 0, .int .i64 0, .string ⟨#[]⟩, .string ⟨#[]⟩, .int .i64 0, .bool false]) (t := 39) (by first | (go_simp; done) | (go_simp; rfl)) ?_; intro g7 e7 w7 h7 b7; have L7 := Lib.hid (Nat.le_trans HB.out.size (Nat.le_of_eq e7.symm)); have V7 := Lib.hid (show some g7 ≠ Value.ownBlock (Value.slice A' l.length c') from fun e => by have := (Kd.R_lt RV.out _ e.symm); omega); have N67 := Lib.hid (Nat.ne_of_lt (Nat.lt_of_lt_of_eq (blk_lt B6.out) e7.symm)); replace B6 := Lib.hid (blk_below B6.out b7); replace HB := Lib.hid (below_step HB.out b7); replace RV := Lib.hid (Kd.R_below RV.out b7); have B7 := Lib.hid h7; clear h7 b7 e7)
              | ((with_reducible refine gate_store (t := 39) (p := 7) rfl ?_); refine store_row_event rfl 39 (.tmp 7) (.tmp 33) rfl g7 #[.int .i64 r.client, .int .i64 r.number, .bool false, .string r.key, .int .i64 r.op.f0, .string r.op.f1, .string r.op.f2, .int .i64 r.op.f3, .int .i64 i, .int .i64 (-1), .int .i64 0, .int .i64 0, .string ⟨#[]⟩, .string ⟨#[]⟩, .int .i64 0, .bool false] rfl rfl 39 _ B7.out (by kernel_rfl) rfl (by simp [Value.oneCell']) ?_; intro v7 h_ q_; replace B6 := Lib.hid (blk_grown B6.out q_ (by intro e_; injection e_ with e_; exact N67.out e_)); replace HB := Lib.hid (below_of_grown HB.out q_ L7.out HB.out.size); replace RV := Lib.hid (Kd.R_grown1 RV.out rfl q_ V7.out); replace B7 := Lib.hid h_; clear h_ q_)
              | ((with_reducible refine gate_dst (N := 35) rfl ?_); refine wpList_load_cell rfl 4 (.tmp 34) rfl g6 8 rfl _ _ B6.out (.bool r.read) rfl _ Try.underlying4 rfl ?_)
              | ((with_reducible refine gate_dst (N := 39) rfl ?_); refine wpList_load_cell rfl 9 (.tmp 38) rfl g6 11 rfl _ _ B6.out (.string r.op.f1) rfl _ Try.underlying9 rfl ?_)
              | ((with_reducible refine gate_store (t := 9) (p := 40) rfl ?_); refine store_cell_event rfl 9 (.tmp 40) _ rfl g7 3 (.string r.op.f1) rfl rfl 39 _ B7.out (by show 3 < 16; decide) (by kernel_rfl) rfl rfl ?_; intro v40 h_ q_; replace B6 := Lib.hid (blk_grown B6.out q_ (by intro e_; injection e_ with e_; exact N67.out e_)); replace HB := Lib.hid (below_of_grown HB.out q_ L7.out HB.out.size); replace RV := Lib.hid (Kd.R_grown1 RV.out rfl q_ V7.out); replace B7 := Lib.hid h_; clear h_ q_; replace B7 : RowKit.Hid (v40.heap[g7]? = some (Obj.cells #[.int .i64 r.client, .int .i64 r.number, .bool false, .string r.op.f1, .int .i64 r.op.f0, .string r.op.f1, .string r.op.f2, .int .i64 r.op.f3, .int .i64 i, .int .i64 (-1), .int .i64 0, .int .i64 0, .string ⟨#[]⟩, .string ⟨#[]⟩, .int .i64 0, .bool false] 39 (0, 0))) := B7)
              | ((with_reducible refine gate_dst (N := 42) rfl ?_); refine wpList_load_row rfl 39 (.tmp 7) rfl g7 rfl 39 #[.int .i64 r.client, .int .i64 r.number, .bool false, .string r.op.f1, .int .i64 r.op.f0, .string r.op.f1, .string r.op.f2, .int .i64 r.op.f3, .int .i64 i, .int .i64 (-1), .int .i64 0, .int .i64 0, .string ⟨#[]⟩, .string ⟨#[]⟩, .int .i64 0, .bool false] (0, 0) _ B7.out Try.underlying39 rfl (by kernel_rfl) ?_)
              | (at_builtin; refine Kd.R_append_rows k39 (Rr := k39.K (World.alloc v40 (.cells #[.int .i64 r.client, .int .i64 r.number, .bool false, .string r.op.f1, .int .i64 r.op.f0, .string r.op.f1, .string r.op.f2, .int .i64 r.op.f3, .int .i64 i, .int .i64 (-1), .int .i64 0, .int .i64 0, .string ⟨#[]⟩, .string ⟨#[]⟩, .int .i64 0, .bool false] 39))) (w0 := w) w.heap.size rfl (.tmp 41) (.tmp 43) 22 39 (.agg #[.int .i64 0, .int .i64 0, .bool false, .string ⟨#[]⟩, .int .i64 0, .string ⟨#[]⟩, .string ⟨#[]⟩, .int .i64 0, .int .i64 0, .int .i64 0, .int .i64 0, .int .i64 0, .string ⟨#[]⟩, .string ⟨#[]⟩, .int .i64 0, .bool false]) 168 rfl Try.underlying22 info39 rfl (by decide) (by decide) (Value.slice A' l.length c') l [askC r i] (some ⟨World.heap v40 |>.size, 0, none⟩) 1 1 (fun _ => True) (fun _ => False) rfl rfl (Kd.R_alloc RV.out _) (by have h := one_C v40 (askC r i); rw [HX.out] at h; exact h) (fun x cs h => by rw [k39_open h]; exact k39_mkM _ _ _ x) (fun _ h => h.elim) (fun _ _ => trivial) (HB.out.alloc HB.out.size _) (by have := HB.out.size; simp; omega) (by have h1 := HN.out; have h2 := PI.out; have h3 := HL.out.1; have h4 : ([askC r i] : List S39).length = 1 := rfl; omega) ?_; intro v2 w2 hR2 hb2 hg2 hat2; have R2 := Lib.hid hR2; have HB2 := Lib.hid hb2; clear hR2 hb2 hg2 hat2)
              | (fail))
            go_roundw
            case rel => exact ⟨i + 1, l ++ [askC r i], by first | rfl | go_num, ⟨by have := PI.out; omega, by have := PI.out; omega⟩, Lib.hid (by rw [HO.out, HS.out]), Lib.hid ⟨R2.out, HB2.out⟩, Lib.hid (HL2.out _ HS2.out)⟩
            case measure => have := PI.out; simp [intOf]; omega
      · have kb1 : (r.kind == 1) = false := by simpa using hk1
        by_cases hk2 : r.kind = 2
        · have kb2 : (r.kind == 2) = true := by rw [hk2]; rfl
          have HIDX := Lib.hid (fun (W : World) (B : Nat) (hB : W.heap[B]? = some (.cells (seenL r z).toArray 64 (0, 0))) (hC : Kd.C k39 W A' l.length l) (hn : l.length ≤ 1000000000000) => idx_any W A' c' l r z B hB hC hn)
          obtain ⟨k, ek⟩ : ∃ k, fstI (mtB r) l = k := ⟨_, rfl⟩
          rw [ek] at HIDX
          by_cases hk : k < 0
          · have dk : decide (k < 0) = true := decide_eq_true hk
            have HF := Lib.hid (show fin = none by rw [HO2.out]; unfold stepW; rw [if_neg hk1, if_pos hk2, if_pos (by rw [ek]; exact hk)])
            clear hk1 hk2 ek HO2 hk
            go_wp2_with (first
              | ((with_reducible refine gate_dst (N := 17) rfl ?_); refine wpList_load_p rfl 64 (.tmp 16) rfl (ad.add (i.toNat * 34)) rfl (seenL r z) _ RK.out Try.underlying64 rfl (by kernel_rfl) ?_)
              | ((with_reducible refine gate_dst (N := 6) rfl ?_); refine box_event rfl (N := 6) rfl (cs := #[.int .i64 0, .int .i64 0, .int .i64 0, .int .i64 0, .int .i64 0, .int .i64 0, .int .i64 0, .int .i64 0, .bool false, .string ⟨#[]⟩, .int .i64 0, .string ⟨#[]⟩, .string ⟨#[]⟩, .int .i64 0, .int .i64 0, .int .i64 0, .int .i64 0, .int .i64 0, .string ⟨#[]⟩, .string ⟨#[]⟩, .int .i64 0, .int .i64 0, .int .i64 0, .string ⟨#[]⟩, .string ⟨#[]⟩, .int .i64 0, .bool false, .int .i64 0, .slice none 0 0, .int .i64 0, .slice none 0 0, .int .i64 0, .int .i64 0, .slice none 0 0]) (t := 64) (by first | (go_simp; done) | (go_simp; rfl)) ?_; intro g6 e6 w6 h6 b6; have L6 := Lib.hid (Nat.le_trans HB.out.size (Nat.le_of_eq e6.symm)); have V6 := Lib.hid (show some g6 ≠ Value.ownBlock (Value.slice A' l.length c') from fun e => by have := (Kd.R_lt RV.out _ e.symm); omega); replace HB := Lib.hid (below_step HB.out b6); replace RV := Lib.hid (Kd.R_below RV.out b6); have B6 := Lib.hid h6; clear h6 b6 e6)
              | ((with_reducible refine gate_store (t := 64) (p := 6) rfl ?_); refine store_row_event rfl 64 (.tmp 6) (.tmp 17) rfl g6 (seenL r z).toArray rfl rfl 64 _ B6.out (by kernel_rfl) rfl (SZ.out) ?_; intro v6 h_ q_; replace HB := Lib.hid (below_of_grown HB.out q_ L6.out HB.out.size); replace RV := Lib.hid (Kd.R_grown1 RV.out rfl q_ V6.out); replace B6 := Lib.hid h_; clear h_ q_)
              | ((with_reducible refine gate_dst (N := 19) rfl ?_); refine wpList_load_cell rfl 51 (.tmp 18) rfl g6 0 rfl _ _ B6.out (.int .i64 r.kind) rfl _ Try.underlying51 rfl ?_)
              | (go_at_call 45; have hCr := (own_cells (W' := w) RV.out); obtain ⟨A2_, c2_, e2_, hc2_, hC2_⟩ := hCr; cases e2_; (with_reducible refine (HIDX.out _ g6 B6.out hC2_ (by have h1 := HL.out.1; have h2 := HN.out; have h3 := PI.out; omega)).mono ?_); clear hc2_ hC2_; rintro e_ W_ ⟨rfl, hb⟩; replace HB := Lib.hid (below_step HB.out hb); replace RV := Lib.hid (Kd.R_below RV.out hb); replace B6 := Lib.hid (blk_below B6.out hb); clear hb)
              | (fail))
            go_ret2
            rw [HF.out]
            exact cal_to (xs := []) (n := 260) rfl (Kd.R_nil _ _ _ _ _) HB.out
          · have dk : decide (k < 0) = false := decide_eq_false hk
            have HK := Lib.hid (show 0 ≤ k ∧ k < (l.length : Int) ∧ k.toNat < l.length by have h := fst_range (mtB r) l (by rw [ek]; exact hk); rw [ek] at h; omega)
            have pK := eq_true HK.out.1
            have qK := eq_true HK.out.2.1
            have HS2 := Lib.hid (show stepW fstI i r l = some (l.set k.toNat (ansC r i (cl l k.toNat))) by unfold stepW; rw [if_neg hk1, if_pos hk2, if_neg (by rw [ek]; exact hk), ek])
            have HS := Lib.hid (show fin = runW fstI (rows.drop (i + 1).toNat) (i + 1) (l.set k.toNat (ansC r i (cl l k.toNat))) by rw [HO2.out, HS2.out])
            obtain ⟨y, ey⟩ : ∃ y, cl l k.toNat = y := ⟨_, rfl⟩
            rw [ey] at HS2 HS
            have EY := Lib.hid ey
            clear hk1 hk2 ek HO2 hk ey
            go_upto_region 15 with (first
              | ((with_reducible refine gate_dst (N := 17) rfl ?_); refine wpList_load_p rfl 64 (.tmp 16) rfl (ad.add (i.toNat * 34)) rfl (seenL r z) _ RK.out Try.underlying64 rfl (by kernel_rfl) ?_)
              | ((with_reducible refine gate_dst (N := 6) rfl ?_); refine box_event rfl (N := 6) rfl (cs := #[.int .i64 0, .int .i64 0, .int .i64 0, .int .i64 0, .int .i64 0, .int .i64 0, .int .i64 0, .int .i64 0, .bool false, .string ⟨#[]⟩, .int .i64 0, .string ⟨#[]⟩, .string ⟨#[]⟩, .int .i64 0, .int .i64 0, .int .i64 0, .int .i64 0, .int .i64 0, .string ⟨#[]⟩, .string ⟨#[]⟩, .int .i64 0, .int .i64 0, .int .i64 0, .string ⟨#[]⟩, .string ⟨#[]⟩, .int .i64 0, .bool false, .int .i64 0, .slice none 0 0, .int .i64 0, .slice none 0 0, .int .i64 0, .int .i64 0, .slice none 0 0]) (t := 64) (by first | (go_simp; done) | (go_simp; rfl)) ?_; intro g6 e6 w6 h6 b6; have L6 := Lib.hid (Nat.le_trans HB.out.size (Nat.le_of_eq e6.symm)); have V6 := Lib.hid (show some g6 ≠ Value.ownBlock (Value.slice A' l.length c') from fun e => by have := (Kd.R_lt RV.out _ e.symm); omega); replace HB := Lib.hid (below_step HB.out b6); replace RV := Lib.hid (Kd.R_below RV.out b6); have B6 := Lib.hid h6; clear h6 b6 e6)
              | ((with_reducible refine gate_store (t := 64) (p := 6) rfl ?_); refine store_row_event rfl 64 (.tmp 6) (.tmp 17) rfl g6 (seenL r z).toArray rfl rfl 64 _ B6.out (by kernel_rfl) rfl (SZ.out) ?_; intro v6 h_ q_; replace HB := Lib.hid (below_of_grown HB.out q_ L6.out HB.out.size); replace RV := Lib.hid (Kd.R_grown1 RV.out rfl q_ V6.out); replace B6 := Lib.hid h_; clear h_ q_)
              | ((with_reducible refine gate_dst (N := 19) rfl ?_); refine wpList_load_cell rfl 51 (.tmp 18) rfl g6 0 rfl _ _ B6.out (.int .i64 r.kind) rfl _ Try.underlying51 rfl ?_)
              | (go_at_call 45; have hCr := (own_cells (W' := w) RV.out); obtain ⟨A2_, c2_, e2_, hc2_, hC2_⟩ := hCr; cases e2_; (with_reducible refine (HIDX.out _ g6 B6.out hC2_ (by have h1 := HL.out.1; have h2 := HN.out; have h3 := PI.out; omega)).mono ?_); clear hc2_ hC2_; rintro e_ W_ ⟨rfl, hb⟩; replace HB := Lib.hid (below_step HB.out hb); replace RV := Lib.hid (Kd.R_below RV.out hb); replace B6 := Lib.hid (blk_below B6.out hb); clear hb)
              | (fail))
            obtain ⟨gq, cq, pq, qq, eq_, bq_, cq_, lq_, hq_, closeq⟩ := R_split RV.out k.toNat HK.out.2.2
            cases eq_
            rw [EY.out] at hq_
            have BQ := Lib.hid hq_
            have LQ := Lib.hid lq_
            have CQ := Lib.hid closeq
            have GQ := Lib.hid bq_
            have NQ := Lib.hid (show g6 ≠ gq from fun e => V6.out ((congrArg some e).trans rfl))
            clear hq_ lq_ closeq bq_ cq_ RV
            cases hrd : r.read with
            | false =>
              have HX := Lib.hid (show callL (ansC r i y) = [.int .i64 y.f0, .int .i64 y.f1, .bool y.f2, .string y.f3, .int .i64 y.f4.f0, .string y.f4.f1, .string y.f4.f2, .int .i64 y.f4.f3, .int .i64 y.f5, .int .i64 i, .int .i64 r.res.f0, .int .i64 r.res.f1, .string y.f8.f0, .string y.f8.f1, .int .i64 y.f8.f2, .bool y.f9] by unfold ansC; rw [if_neg (by rw [hrd]; decide)]; rfl)
              go_wp2_with (first
                | ((with_reducible refine gate_store (t := 3) (p := 58) rfl ?_); refine elem_cell_event rfl 3 (.tmp 58) _ rfl gq (k.toNat * 16) 9 (.int .i64 i) rfl rfl 39 pq _ qq LQ.out BQ.out (by show 9 < 16; decide) (by kernel_rfl) rfl rfl ?_; intro v58 h_ q_; replace B6 := Lib.hid (blk_grown B6.out q_ (by intro e_; injection e_ with e_; exact NQ.out e_)); replace HB := Lib.hid (below_of_grown HB.out q_ GQ.out HB.out.size); replace BQ := Lib.hid h_; clear h_ q_; replace BQ : RowKit.Hid (v58.heap[gq]? = some (Obj.cells (List.toArray (pq ++ ([.int .i64 y.f0, .int .i64 y.f1, .bool y.f2, .string y.f3, .int .i64 y.f4.f0, .string y.f4.f1, .string y.f4.f2, .int .i64 y.f4.f3, .int .i64 y.f5, .int .i64 i, .int .i64 y.f7.f0, .int .i64 y.f7.f1, .string y.f8.f0, .string y.f8.f1, .int .i64 y.f8.f2, .bool y.f9] : List Value) ++ qq)) 39 (0, 0))) := BQ)
                | ((with_reducible refine gate_dst (N := 60) rfl ?_); refine wpList_load_cell rfl 4 (.tmp 59) rfl g6 8 rfl _ _ B6.out (.bool r.read) rfl _ Try.underlying4 rfl ?_)
                | ((with_reducible refine gate_dst (N := 64) rfl ?_); refine wpList_load_p rfl 35 (.tmp 63) rfl ⟨g6, 21, none⟩ rfl [.int .i64 r.res.f0, .int .i64 r.res.f1] _ (mid_cells B6.out rfl) Try.underlying35 rfl (by kernel_rfl) ?_)
                | ((with_reducible refine gate_store (t := 35) (p := 66) rfl ?_); refine elem_mid_event rfl 35 (.tmp 66) (.tmp 64) rfl gq (k.toNat * 16) 10 #[.int .i64 r.res.f0, .int .i64 r.res.f1] rfl rfl 39 pq _ qq LQ.out BQ.out (by show 10 + 2 ≤ 16; decide) (by kernel_rfl) (by simp [Value.oneCell']) ?_; intro v66 h_ q_; replace B6 := Lib.hid (blk_grown B6.out q_ (by intro e_; injection e_ with e_; exact NQ.out e_)); replace HB := Lib.hid (below_of_grown HB.out q_ GQ.out HB.out.size); replace BQ := Lib.hid h_; clear h_ q_; replace BQ : RowKit.Hid (v66.heap[gq]? = some (Obj.cells (List.toArray (pq ++ ([.int .i64 y.f0, .int .i64 y.f1, .bool y.f2, .string y.f3, .int .i64 y.f4.f0, .string y.f4.f1, .string y.f4.f2, .int .i64 y.f4.f3, .int .i64 y.f5, .int .i64 i, .int .i64 r.res.f0, .int .i64 r.res.f1, .string y.f8.f0, .string y.f8.f1, .int .i64 y.f8.f2, .bool y.f9] : List Value) ++ qq)) 39 (0, 0))) := BQ)
                | (fail))
              go_roundw
              case rel => exact ⟨i + 1, l.set k.toNat (ansC r i y), by first | rfl | go_num, ⟨by have := PI.out; omega, by have := PI.out; omega⟩, HS, Lib.hid ⟨CQ.out _ _ (by rw [HX.out]; exact BQ.out), HB.out⟩, Lib.hid (HL2.out _ HS2.out)⟩
              case measure => have := PI.out; simp [intOf]; omega
            | true =>
              cases hfo : r.found with
              | false =>
                have HX := Lib.hid (show callL (ansC r i y) = [.int .i64 y.f0, .int .i64 y.f1, .bool y.f2, .string y.f3, .int .i64 y.f4.f0, .string y.f4.f1, .string y.f4.f2, .int .i64 y.f4.f3, .int .i64 y.f5, .int .i64 i, .int .i64 y.f7.f0, .int .i64 y.f7.f1, .string y.f8.f0, .string y.f8.f1, .int .i64 y.f8.f2, .bool y.f9] by unfold ansC; rw [if_pos hrd, if_neg (by rw [hfo]; decide)]; rfl)
                go_wp2_with (first
                  | ((with_reducible refine gate_store (t := 3) (p := 58) rfl ?_); refine elem_cell_event rfl 3 (.tmp 58) _ rfl gq (k.toNat * 16) 9 (.int .i64 i) rfl rfl 39 pq _ qq LQ.out BQ.out (by show 9 < 16; decide) (by kernel_rfl) rfl rfl ?_; intro v58 h_ q_; replace B6 := Lib.hid (blk_grown B6.out q_ (by intro e_; injection e_ with e_; exact NQ.out e_)); replace HB := Lib.hid (below_of_grown HB.out q_ GQ.out HB.out.size); replace BQ := Lib.hid h_; clear h_ q_; replace BQ : RowKit.Hid (v58.heap[gq]? = some (Obj.cells (List.toArray (pq ++ ([.int .i64 y.f0, .int .i64 y.f1, .bool y.f2, .string y.f3, .int .i64 y.f4.f0, .string y.f4.f1, .string y.f4.f2, .int .i64 y.f4.f3, .int .i64 y.f5, .int .i64 i, .int .i64 y.f7.f0, .int .i64 y.f7.f1, .string y.f8.f0, .string y.f8.f1, .int .i64 y.f8.f2, .bool y.f9] : List Value) ++ qq)) 39 (0, 0))) := BQ)
                  | ((with_reducible refine gate_dst (N := 60) rfl ?_); refine wpList_load_cell rfl 4 (.tmp 59) rfl g6 8 rfl _ _ B6.out (.bool r.read) rfl _ Try.underlying4 rfl ?_)
                  | ((with_reducible refine gate_dst (N := 68) rfl ?_); refine wpList_load_cell rfl 4 (.tmp 67) rfl g6 26 rfl _ _ B6.out (.bool false) (by rw [← hfo]; rfl) _ Try.underlying4 rfl ?_)
                  | (fail))
                go_roundw
                case rel => exact ⟨i + 1, l.set k.toNat (ansC r i y), by first | rfl | go_num, ⟨by have := PI.out; omega, by have := PI.out; omega⟩, HS, Lib.hid ⟨CQ.out _ _ (by rw [HX.out]; exact BQ.out), HB.out⟩, Lib.hid (HL2.out _ HS2.out)⟩
                case measure => have := PI.out; simp [intOf]; omega
              | true =>
                have HX := Lib.hid (show callL (ansC r i y) = [.int .i64 y.f0, .int .i64 y.f1, .bool y.f2, .string y.f3, .int .i64 y.f4.f0, .string y.f4.f1, .string y.f4.f2, .int .i64 y.f4.f3, .int .i64 y.f5, .int .i64 i, .int .i64 y.f7.f0, .int .i64 y.f7.f1, .string r.row.f0, .string r.row.f1, .int .i64 r.row.f2, .bool true] by unfold ansC; rw [if_pos hrd, if_pos hfo]; rfl)
                go_upto_region 20 with (first
                  | ((with_reducible refine gate_store (t := 3) (p := 58) rfl ?_); refine elem_cell_event rfl 3 (.tmp 58) _ rfl gq (k.toNat * 16) 9 (.int .i64 i) rfl rfl 39 pq _ qq LQ.out BQ.out (by show 9 < 16; decide) (by kernel_rfl) rfl rfl ?_; intro v58 h_ q_; replace B6 := Lib.hid (blk_grown B6.out q_ (by intro e_; injection e_ with e_; exact NQ.out e_)); replace HB := Lib.hid (below_of_grown HB.out q_ GQ.out HB.out.size); replace BQ := Lib.hid h_; clear h_ q_; replace BQ : RowKit.Hid (v58.heap[gq]? = some (Obj.cells (List.toArray (pq ++ ([.int .i64 y.f0, .int .i64 y.f1, .bool y.f2, .string y.f3, .int .i64 y.f4.f0, .string y.f4.f1, .string y.f4.f2, .int .i64 y.f4.f3, .int .i64 y.f5, .int .i64 i, .int .i64 y.f7.f0, .int .i64 y.f7.f1, .string y.f8.f0, .string y.f8.f1, .int .i64 y.f8.f2, .bool y.f9] : List Value) ++ qq)) 39 (0, 0))) := BQ)
                  | ((with_reducible refine gate_dst (N := 60) rfl ?_); refine wpList_load_cell rfl 4 (.tmp 59) rfl g6 8 rfl _ _ B6.out (.bool r.read) rfl _ Try.underlying4 rfl ?_)
                  | ((with_reducible refine gate_dst (N := 68) rfl ?_); refine wpList_load_cell rfl 4 (.tmp 67) rfl g6 26 rfl _ _ B6.out (.bool true) (by rw [← hfo]; rfl) _ Try.underlying4 rfl ?_)
                  | (fail))
                refine start_ (n := 10) (S := fun w1 => w1.heap[g6]? = some (Obj.cells (seenL r z).toArray 64 (0, 0))) (ds := []) (ar 10 0) (by kernel_rfl) rfl rfl (blk_below B6.out (below_drew1 (Below.refl _ _))) (fun hHeld => ?_); refine with_tabW cal.tab20 cal.bits20 (fun HT_ HW_ => ?_)
                replace B6 := Lib.hid (blk_below B6.out (below_drew1 (Below.refl _ _)))
                replace BQ := Lib.hid (blk_below BQ.out (below_drew1 (Below.refl _ _)))
                replace HB := Lib.hid (below_drew1 HB.out)
                generalize v58.drew = wz at B6 BQ HB hHeld ⊢
                refine pure_ (i := 0) (N := (some 69)) (v := ?_) (a' := ?_) (ar 10 1) rfl rfl (any_of HT_.out (by kernel_rfl)) (fun _ _ _ h => h) (Or.inl ⟨by rfl, ?_⟩) ?_ ?_; rotate_left; (· intro w1; go_simp; with_reducible rfl); rotate_left; (· simp only [Act.put, List.setIfInBounds_toArray, List.set_cons_zero, List.set_cons_succ, i64_w, i32_w]; rfl)
                refine pure_ (i := 1) (N := (some 70)) (v := ?_) (a' := ?_) (ar 10 2) rfl rfl (any_of HT_.out (by kernel_rfl)) (fun _ _ _ h => h) (Or.inl ⟨by rfl, ?_⟩) ?_ ?_; rotate_left; (· intro w1; go_simp; with_reducible rfl); rotate_left; (· simp only [Act.put, List.setIfInBounds_toArray, List.set_cons_zero, List.set_cons_succ, i64_w, i32_w]; rfl)
                refine pure_ (i := 2) (N := (some 71)) (v := ?_) (a' := ?_) (ar 10 3) rfl rfl (any_of HT_.out (by kernel_rfl)) (fun _ _ _ h => h) (Or.inl ⟨by rfl, ?_⟩) ?_ ?_; rotate_left; (· intro w1; go_simp; with_reducible rfl); rotate_left; (· simp only [Act.put, List.setIfInBounds_toArray, List.set_cons_zero, List.set_cons_succ, i64_w, i32_w]; rfl)
                refine take_ (i := 3) (N := (some 72)) (v := .agg #[.string r.row.f0, .string r.row.f1, .int .i64 r.row.f2]) (a' := ?_) (ar 10 4) rfl rfl (take_ofW HT_.out HW_.out (by kernel_rfl)) (fun _ _ _ h => h) (Or.inl ⟨by rfl, fun w1 hs1 => exec_load_p 37 (.tmp 71) rfl ⟨g6, 23, none⟩ rfl [.string r.row.f0, .string r.row.f1, .int .i64 r.row.f2] _ (mid_cells hs1 rfl) Try.underlying37 rfl (by kernel_rfl)⟩) hHeld ?_ ?_; rotate_left; (· simp only [Act.put, List.setIfInBounds_toArray, List.set_cons_zero, List.set_cons_succ, i64_w, i32_w]; rfl)
                refine pure_ (i := 4) (N := (some 73)) (v := ?_) (a' := ?_) (ar 10 5) rfl rfl (any_of HT_.out (by kernel_rfl)) (fun _ _ _ h => h) (Or.inl ⟨by rfl, ?_⟩) ?_ ?_; rotate_left; (· intro w1; go_simp; with_reducible rfl); rotate_left; (· simp only [Act.put, List.setIfInBounds_toArray, List.set_cons_zero, List.set_cons_succ, i64_w, i32_w]; rfl)
                refine pure_ (i := 5) (N := (some 74)) (v := ?_) (a' := ?_) (ar 10 6) rfl rfl (any_of HT_.out (by kernel_rfl)) (fun _ _ _ h => h) (Or.inl ⟨by rfl, ?_⟩) ?_ ?_; rotate_left; (· intro w1; go_simp; with_reducible rfl); rotate_left; (· simp only [Act.put, List.setIfInBounds_toArray, List.set_cons_zero, List.set_cons_succ, i64_w, i32_w]; rfl)
                refine one_ (i := 6) (N := none) (ar 10 7) rfl rfl (one_of HT_.out (by kernel_rfl)) (by decide) (fun K hK => ?_); refine wp_elem_cell 4 (.tmp 74) _ rfl gq (k.toNat * 16) 15 (.bool true) rfl rfl 39 pq _ qq LQ.out BQ.out (by show 15 < 16; decide) (by kernel_rfl) rfl rfl ?_; intro v74 h_ q_; replace B6 := Lib.hid (blk_grown B6.out q_ (by intro e_; injection e_ with e_; exact NQ.out e_)); replace HB := Lib.hid (below_of_grown HB.out q_ GQ.out HB.out.size); replace BQ := Lib.hid h_; clear h_ q_; replace BQ : RowKit.Hid (v74.heap[gq]? = some (Obj.cells (List.toArray (pq ++ ([.int .i64 y.f0, .int .i64 y.f1, .bool y.f2, .string y.f3, .int .i64 y.f4.f0, .string y.f4.f1, .string y.f4.f2, .int .i64 y.f4.f3, .int .i64 y.f5, .int .i64 i, .int .i64 y.f7.f0, .int .i64 y.f7.f1, .string y.f8.f0, .string y.f8.f1, .int .i64 y.f8.f2, .bool true] : List Value) ++ qq)) 39 (0, 0))) := BQ; refine hK.out _ _ B6.out (fun hHeld => ?_); clear hK K
                refine pure_ (i := 7) (N := (some 75)) (v := ?_) (a' := ?_) (ar 10 8) rfl rfl (any_of HT_.out (by kernel_rfl)) (fun _ _ _ h => h) (Or.inl ⟨by rfl, ?_⟩) ?_ ?_; rotate_left; (· intro w1; go_simp; with_reducible rfl); rotate_left; (· simp only [Act.put, List.setIfInBounds_toArray, List.set_cons_zero, List.set_cons_succ, i64_w, i32_w]; rfl)
                refine pure_ (i := 8) (N := (some 76)) (v := ?_) (a' := ?_) (ar 10 9) rfl rfl (any_of HT_.out (by kernel_rfl)) (fun _ _ _ h => h) (Or.inl ⟨by rfl, ?_⟩) ?_ ?_; rotate_left; (· intro w1; go_simp; with_reducible rfl); rotate_left; (· simp only [Act.put, List.setIfInBounds_toArray, List.set_cons_zero, List.set_cons_succ, i64_w, i32_w]; rfl)
                refine one_ (i := 9) (N := none) (ar 10 10) rfl rfl (one_of HT_.out (by kernel_rfl)) (by decide) (fun K hK => ?_); refine wp_elem_mid 37 (.tmp 76) (.tmp 72) rfl gq (k.toNat * 16) 12 #[.string r.row.f0, .string r.row.f1, .int .i64 r.row.f2] rfl rfl 39 pq _ qq LQ.out BQ.out (by show 12 + 3 ≤ 16; decide) (by kernel_rfl) (by simp [Value.oneCell']) ?_; intro v76 h_ q_; replace B6 := Lib.hid (blk_grown B6.out q_ (by intro e_; injection e_ with e_; exact NQ.out e_)); replace HB := Lib.hid (below_of_grown HB.out q_ GQ.out HB.out.size); replace BQ := Lib.hid h_; clear h_ q_; replace BQ : RowKit.Hid (v76.heap[gq]? = some (Obj.cells (List.toArray (pq ++ ([.int .i64 y.f0, .int .i64 y.f1, .bool y.f2, .string y.f3, .int .i64 y.f4.f0, .string y.f4.f1, .string y.f4.f2, .int .i64 y.f4.f3, .int .i64 y.f5, .int .i64 i, .int .i64 y.f7.f0, .int .i64 y.f7.f1, .string r.row.f0, .string r.row.f1, .int .i64 r.row.f2, .bool true] : List Value) ++ qq)) 39 (0, 0))) := BQ; refine hK.out _ _ B6.out (fun hHeld => ?_); clear hK K
                refine done_ (done_of HT_.out (by kernel_rfl)) ?_
                go_wp2
                go_roundw
                case rel => exact ⟨i + 1, l.set k.toNat (ansC r i y), by first | rfl | go_num, ⟨by have := PI.out; omega, by have := PI.out; omega⟩, HS, Lib.hid ⟨CQ.out _ _ (by rw [HX.out]; exact BQ.out), HB.out⟩, Lib.hid (HL2.out _ HS2.out)⟩
                case measure => have := PI.out; simp [intOf]; omega
        · have kb2 : (r.kind == 2) = false := by simpa using hk2
          have HS2 := Lib.hid (show stepW fstI i r l = some l by unfold stepW; rw [if_neg hk1, if_neg hk2])
          have HS := Lib.hid (show fin = runW fstI (rows.drop (i + 1).toNat) (i + 1) l by rw [HO2.out, HS2.out])
          clear hk1 hk2 HO2
          go_wp2_with (first
            | ((with_reducible refine gate_dst (N := 17) rfl ?_); refine wpList_load_p rfl 64 (.tmp 16) rfl (ad.add (i.toNat * 34)) rfl (seenL r z) _ RK.out Try.underlying64 rfl (by kernel_rfl) ?_)
            | ((with_reducible refine gate_dst (N := 6) rfl ?_); refine box_event rfl (N := 6) rfl (cs := #[.int .i64 0, .int .i64 0, .int .i64 0, .int .i64 0, .int .i64 0, .int .i64 0, .int .i64 0, .int .i64 0, .bool false, .string ⟨#[]⟩, .int .i64 0, .string ⟨#[]⟩, .string ⟨#[]⟩, .int .i64 0, .int .i64 0, .int .i64 0, .int .i64 0, .int .i64 0, .string ⟨#[]⟩, .string ⟨#[]⟩, .int .i64 0, .int .i64 0, .int .i64 0, .string ⟨#[]⟩, .string ⟨#[]⟩, .int .i64 0, .bool false, .int .i64 0, .slice none 0 0, .int .i64 0, .slice none 0 0, .int .i64 0, .int .i64 0, .slice none 0 0]) (t := 64) (by first | (go_simp; done) | (go_simp; rfl)) ?_; intro g6 e6 w6 h6 b6; have L6 := Lib.hid (Nat.le_trans HB.out.size (Nat.le_of_eq e6.symm)); have V6 := Lib.hid (show some g6 ≠ Value.ownBlock (Value.slice A' l.length c') from fun e => by have := (Kd.R_lt RV.out _ e.symm); omega); replace HB := Lib.hid (below_step HB.out b6); replace RV := Lib.hid (Kd.R_below RV.out b6); have B6 := Lib.hid h6; clear h6 b6 e6)
            | ((with_reducible refine gate_store (t := 64) (p := 6) rfl ?_); refine store_row_event rfl 64 (.tmp 6) (.tmp 17) rfl g6 (seenL r z).toArray rfl rfl 64 _ B6.out (by kernel_rfl) rfl (SZ.out) ?_; intro v6 h_ q_; replace HB := Lib.hid (below_of_grown HB.out q_ L6.out HB.out.size); replace RV := Lib.hid (Kd.R_grown1 RV.out rfl q_ V6.out); replace B6 := Lib.hid h_; clear h_ q_)
            | ((with_reducible refine gate_dst (N := 19) rfl ?_); refine wpList_load_cell rfl 51 (.tmp 18) rfl g6 0 rfl _ _ B6.out (.int .i64 r.kind) rfl _ Try.underlying51 rfl ?_)
            | (fail))
          go_roundw
          case rel => exact ⟨i + 1, l, by first | rfl | go_num, ⟨by have := PI.out; omega, by have := PI.out; omega⟩, HS, Lib.hid ⟨RV.out, HB.out⟩, Lib.hid (HL2.out _ HS2.out)⟩
          case measure => have := PI.out; simp [intOf]; omega
    · have hnl : decide (i < (rows.length : Int)) = false := decide_eq_false hlt
      have ei : i = (rows.length : Int) := by omega
      subst ei
      have HF := Lib.hid (show fin = some l by rw [HO.out, Int.toNat_natCast, List.drop_length]; rfl)
      have HLB := Lib.hid (show l.length ≤ 1000000000000 by have h1 := HL.out.1; have h2 := HN.out; omega)
      rcases ref_two l with he | he
      · have HCH := Lib.hid (HCHK.out A' c' l 0 wr CL.out.2 CL.out.1 HLB.out HL.out.2 he)
        have HE := Lib.hid (show outW refF fin = (l, 0) by rw [HF.out]; show (if refF l = 0 then (l, (0 : Int)) else ([], 260)) = _; rw [if_pos he])
        have RV := Lib.hid HRB.out.1
        have HB := Lib.hid HRB.out.2
        clear i0 i1 hlt HRB he
        go_wp2_with (first
          | (go_at_call 16; (with_reducible refine HCH.out.mono ?_); rintro e_ W_ ⟨rfl, hb⟩; replace HB := Lib.hid (below_step HB.out hb); replace RV := Lib.hid (Kd.R_below RV.out hb); clear hb)
          | (fail))
        go_ret2
        exact cal_to HE.out RV.out HB.out
      · have HCH := Lib.hid (HCHK.out A' c' l 260 wr CL.out.2 CL.out.1 HLB.out HL.out.2 he)
        have HE := Lib.hid (show outW refF fin = ([], 260) by rw [HF.out]; show (if refF l = 0 then (l, (0 : Int)) else ([], 260)) = _; rw [if_neg (by rw [he]; decide)])
        have HB := Lib.hid HRB.out.2
        clear i0 i1 hlt HRB he
        go_wp2_with (first
          | (go_at_call 16; (with_reducible refine HCH.out.mono ?_); rintro e_ W_ ⟨rfl, hb⟩; replace HB := Lib.hid (below_step HB.out hb); clear hb)
          | (fail))
        go_ret2
        exact cal_to HE.out (Kd.R_nil _ _ _ _ _) HB.out
end Go.Proofs.Ytbakmkoppieelaa.PLinearChecks

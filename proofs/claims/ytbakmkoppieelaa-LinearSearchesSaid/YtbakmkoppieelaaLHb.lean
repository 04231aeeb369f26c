/- What is proved: the state behind a call, of the reference; the conditions stand in the theorems. -/
import Derived.Test.YtbakmkoppieelaaLHa
import Derived.BigQuiet
import Derived.Deep.QuietTactic
namespace Go.Proofs.Ytbakmkoppieelaa.PLinearChecks
open Go.RowKit Go.Proofs.YtbakmkoppieelaaW.PrintWords Go.Proofs.YtbakmkoppieelaaW.PrintLast Go.Proofs.YtbakmkoppieelaaW.PrintMore
set_option linter.unusedVariables false
set_option linter.unusedSimpArgs false
/-- The state behind a call. -/
def aftF (s : SS) (x : S39) : SS × Bool :=
  if x.f2 = true then (if x.f9 = false then (s, !s.t) else if s.t = false then (s, false) else if s.v.toList = x.f8.f1.toList then seeF s x.f8.f2 else (s, false))
  else if (ansB x = true ∧ x.f7.f0 = 2) ∨ (ansB x = true ∧ x.f7.f0 = 4) then (s, !s.t)
  else if ansB x = true ∧ x.f7.f0 = 3 then verF s x.f7.f1
  else if x.f4.f0 = 2 then goeF s x.f7.f1
  else if x.f4.f0 = 3 then (if (verF s x.f4.f3).2 = true then putF (verF s x.f4.f3).1 x.f4.f2 x.f7.f1 else (s, false))
  else putF s x.f4.f2 x.f7.f1
theorem wp_row {P : Program} {o : Oper} {a : Act} {w : World} {K : Act → World → Prop} {Q : Exit → Act → World → Prop} (ty : TypeId) (x y : Operand) (ho : o.op = .store ty x y)
    (g : Nat) (cells : Array Value) (hx : a.eval x = .pointer (some ⟨g, 0, none⟩)) (hy : a.eval y = .agg cells) (t : TypeId) (old : Array Value) (hg : w.heap[g]? = some (.cells old t (0, 0))) (hi : (P.info? ty).map (·.size) = some cells.size) (hold : old.size = cells.size) (h1 : cells.all (·.oneCell') = true)
    (h : ∀ w', w'.heap[g]? = some (.cells cells t (0, 0)) → w.grownBy w' (some g) → K (a.put o.dst undef) w') : o.wp P a w K Q := by
  have hs : setL old 0 cells.toList = cells := by
    have h2 := setL_mid (p := []) (q := []) (o := 0) rfl cells.toList old.toList 0 (by simp [hold])
    have h3 : ∀ (vs m : List Value) (j : Nat), j + vs.length = m.length → setLs m j vs = m.take j ++ vs := by
      intro vs
      induction vs with
      | nil => intro m j hj; rw [setLs, List.append_nil, List.take_of_length_le (by simpa using Nat.le_of_eq hj.symm)]
      | cons v r ih =>
        intro m j hj
        have hj2 : j + (r.length + 1) = m.length := hj
        rw [setLs, ih (m.set j v) (j + 1) (by rw [List.length_set]; omega), List.take_succ_eq_append_getElem (by rw [List.length_set]; omega), List.take_set_of_le (Nat.le_refl j)]
        simp
    rw [h3 cells.toList old.toList 0 (by simp [hold])] at h2
    simpa using h2
  obtain ⟨h2, h3⟩ := setCells_blk cells.toList 0 w old hg
  rw [hs] at h2
  exact wp_store_mid ty x y ho g 0 cells hx hy (fun i hi => ⟨by rw [blk_cell hg, Option.isSome_iff_exists]; have hb : 0 + i < old.size := (by omega); exact ⟨_, Array.getElem?_eq_getElem hb⟩, blk_frozen hg _⟩) hi h1 (h _ h2 h3)
theorem mid_cells {W : World} {g t : Nat} {cs : Array Value} {o : Nat} {m : List Value} (h : W.heap[g]? = some (.cells cs t (0, 0))) (hm : (cs.toList.drop o).take m.length = m) : ∀ j v, m[j]? = some v → W.cell? ((⟨g, o, none⟩ : Addr).add j) = some v := by
  intro j v hj
  have h1 : ((⟨g, o, none⟩ : Addr).add j) = ⟨g, o + j, none⟩ := by simp [Addr.add]
  rw [h1, blk_cell h, ← hj]
  have hlt : j < m.length := (List.getElem?_eq_some_iff.mp hj).1
  conv => rhs; rw [← hm]
  rw [List.getElem?_take, if_pos hlt, List.getElem?_drop, ← Array.getElem?_toList]
theorem ranswered_ag (x : S39) (b : Bool) (h : ansB x = b) (W : World) : Calls Try.prog 44 #[.agg #[.int .i64 x.f0, .int .i64 x.f1, .bool x.f2, .string x.f3, .int .i64 x.f4.f0, .string x.f4.f1, .string x.f4.f2, .int .i64 x.f4.f3, .int .i64 x.f5, .int .i64 x.f6, .int .i64 x.f7.f0, .int .i64 x.f7.f1, .string x.f8.f0, .string x.f8.f1, .int .i64 x.f8.f2, .bool x.f9]] W fun e w' => e = .returned (.bool b) ∧ Below W.heap.size W w' := ranswered_any x.f0 x.f1 x.f2 x.f3 x.f4.f0 x.f4.f1 x.f4.f2 x.f4.f3 x.f5 x.f6 x.f7.f0 x.f7.f1 x.f8.f0 x.f8.f1 x.f8.f2 x.f9 b h W
def aft.T3 : Bool × List (List Nat × List Nat) := (true, [([], []), ([], []), ([1], [1]), ([2], [2]), ([0, 0], [0]), ([3, 4, 0, 1, 2, 3, 4], [3])])
def aft.B3 : List Nat := [0, 0, 2, 6, 1, 31]
theorem aft.tab3 : rtab .any (opsOf Try.f93 3) = aft.T3 := by kernel_rfl
theorem aft.bits3 : waitsOk aft.T3.2 aft.B3 = true := by kernel_rfl
def aft.T11 : Bool × List (List Nat × List Nat) := (true, [([], []), ([], []), ([1], [1]), ([2], [2]), ([0, 0], [0]), ([3, 4, 0, 1, 2, 3, 4], [3])])
def aft.B11 : List Nat := [0, 0, 2, 6, 1, 31]
theorem aft.tab11 : rtab .any (opsOf Try.f93 11) = aft.T11 := by kernel_rfl
theorem aft.bits11 : waitsOk aft.T11.2 aft.B11 = true := by kernel_rfl
set_option maxRecDepth 100000 in
set_option maxHeartbeats 8000000 in
theorem after_read (k : ByteArray) (t : Bool) (v : ByteArray) (lo fr : Int) (x : S39) (hr : x.f2 = true) (w : World) : Calls Try.prog 93 #[.agg #[.string k, .bool t, .string v, .int .i64 lo, .int .i64 fr], .agg #[.int .i64 x.f0, .int .i64 x.f1, .bool x.f2, .string x.f3, .int .i64 x.f4.f0, .string x.f4.f1, .string x.f4.f2, .int .i64 x.f4.f3, .int .i64 x.f5, .int .i64 x.f6, .int .i64 x.f7.f0, .int .i64 x.f7.f1, .string x.f8.f0, .string x.f8.f1, .int .i64 x.f8.f2, .bool x.f9]] w fun e w' => e = .returned (.tuple #[ssA (aftF ⟨k, t, v, lo, fr⟩ x).1, .bool (aftF ⟨k, t, v, lo, fr⟩ x).2]) ∧ Below w.heap.size w w' := by
  have HB := Lib.hid (Below.refl w.heap.size w)
  by_cases hfo : x.f9 = false
  · have HF := Lib.hid (show aftF ⟨k, t, v, lo, fr⟩ x = (⟨k, t, v, lo, fr⟩, !t) by unfold aftF; rw [if_pos hr, if_pos hfo])
    go_enter Try.func93, Try.ntmps93
    go_upto_region 3 with (first
      | ((with_reducible refine gate_dst (N := 2) rfl ?_); refine box_event rfl (N := 2) rfl (cs := #[.string k, .bool t, .string v, .int .i64 lo, .int .i64 fr]) (t := 177) (by first | (go_simp; done) | (go_simp; rfl)) ?_; intro g2 e2 w2 h2 b2; have L2 := Lib.hid (Nat.le_trans HB.out.size (Nat.le_of_eq e2.symm)); replace HB := Lib.hid (below_step HB.out b2); have B2 := Lib.hid h2; clear h2 b2 e2)
      | ((with_reducible refine gate_dst (N := 3) rfl ?_); refine box_event rfl (N := 3) rfl (cs := #[.int .i64 x.f0, .int .i64 x.f1, .bool x.f2, .string x.f3, .int .i64 x.f4.f0, .string x.f4.f1, .string x.f4.f2, .int .i64 x.f4.f3, .int .i64 x.f5, .int .i64 x.f6, .int .i64 x.f7.f0, .int .i64 x.f7.f1, .string x.f8.f0, .string x.f8.f1, .int .i64 x.f8.f2, .bool x.f9]) (t := 39) (by first | (go_simp; done) | (go_simp; rfl)) ?_; intro g3 e3 w3 h3 b3; have L3 := Lib.hid (Nat.le_trans HB.out.size (Nat.le_of_eq e3.symm)); have N23 := Lib.hid (Nat.ne_of_lt (Nat.lt_of_lt_of_eq (blk_lt B2.out) e3.symm)); have N32 := Lib.hid N23.out.symm; replace B2 := Lib.hid (blk_below B2.out b3); replace HB := Lib.hid (below_step HB.out b3); have B3 := Lib.hid h3; clear h3 b3 e3)
      | ((with_reducible refine gate_dst (N := 4) rfl ?_); refine box_event rfl (N := 4) rfl (cs := #[.string ⟨#[]⟩, .bool false, .string ⟨#[]⟩, .int .i64 0, .int .i64 0]) (t := 177) (by first | (go_simp; done) | (go_simp; rfl)) ?_; intro g4 e4 w4 h4 b4; have L4 := Lib.hid (Nat.le_trans HB.out.size (Nat.le_of_eq e4.symm)); have N24 := Lib.hid (Nat.ne_of_lt (Nat.lt_of_lt_of_eq (blk_lt B2.out) e4.symm)); have N42 := Lib.hid N24.out.symm; replace B2 := Lib.hid (blk_below B2.out b4); have N34 := Lib.hid (Nat.ne_of_lt (Nat.lt_of_lt_of_eq (blk_lt B3.out) e4.symm)); have N43 := Lib.hid N34.out.symm; replace B3 := Lib.hid (blk_below B3.out b4); replace HB := Lib.hid (below_step HB.out b4); have B4 := Lib.hid h4; clear h4 b4 e4)
      | ((with_reducible refine gate_dst (N := 11) rfl ?_); refine wpList_load_cell rfl 4 (.tmp 10) rfl g3 2 rfl _ _ B3.out (.bool true) (by rw [← hr]; rfl) _ Try.underlying4 rfl ?_)
      | ((with_reducible refine gate_dst (N := 13) rfl ?_); refine wpList_load_cell rfl 4 (.tmp 12) rfl g3 15 rfl _ _ B3.out (.bool false) (by rw [← hfo]; rfl) _ Try.underlying4 rfl ?_)
      | (fail))
    refine start_ (n := 6) (S := fun w1 => w1.heap[g2]? = some (Obj.cells #[.string k, .bool t, .string v, .int .i64 lo, .int .i64 fr] 177 (0, 0))) (ds := []) (ar 6 0) (by kernel_rfl) rfl rfl (blk_below B2.out (below_drew1 (Below.refl _ _))) (fun hHeld => ?_); refine with_tabW aft.tab3 aft.bits3 (fun HT_ HW_ => ?_)
    replace B2 := Lib.hid (blk_below B2.out (below_drew1 (Below.refl _ _)))
    replace B4 := Lib.hid (blk_below B4.out (below_drew1 (Below.refl _ _)))
    replace HB := Lib.hid (below_drew1 HB.out)
    generalize w4.drew = wz at B2 B4 HB hHeld ⊢
    refine take_ (i := 0) (N := (some 15)) (v := .agg #[.string k, .bool t, .string v, .int .i64 lo, .int .i64 fr]) (a' := ?_) (ar 6 1) rfl rfl (take_ofW HT_.out HW_.out (by kernel_rfl)) (fun _ _ _ h => h) (Or.inl ⟨by rfl, fun w1 hs1 => exec_load_p 177 (.tmp 2) rfl ⟨g2, 0, none⟩ rfl [.string k, .bool t, .string v, .int .i64 lo, .int .i64 fr] _ (mid_cells hs1 rfl) Try.underlying177 rfl (by kernel_rfl)⟩) hHeld ?_ ?_; rotate_left; (· simp only [Act.put, List.setIfInBounds_toArray, List.set_cons_zero, List.set_cons_succ, i64_w, i32_w]; rfl)
    refine pY 1 (some 16) (ar 6 2) HT_ (h := ?_)
    refine take_ (i := 2) (N := (some 17)) (v := ?_) (a' := ?_) (ar 6 3) rfl rfl (take_ofW HT_.out HW_.out (by kernel_rfl)) (fun _ _ _ h => h) (Or.inl ⟨by rfl, ?_⟩) hHeld ?_ ?_; rotate_left; (· rintro w1 hs1; have kc : w1.cell? ⟨g2, 1, none⟩ = some (.bool t) := (blk_cell hs1 1).trans rfl; go_simp; with_reducible rfl); rotate_left; (· simp only [Act.put, List.setIfInBounds_toArray, List.set_cons_zero, List.set_cons_succ, i64_w, i32_w]; rfl)
    refine pY 3 (some 18) (ar 6 4) HT_ (h := ?_)
    refine one_ (i := 4) (N := none) (ar 6 5) rfl rfl (one_of HT_.out (by kernel_rfl)) (by decide) (fun K hK => ?_); refine wp_row 177 (.tmp 4) (.tmp 15) rfl g4 _ rfl rfl 177 _ B4.out (by kernel_rfl) rfl (by simp [Value.oneCell']) ?_; intro vq h_ q_; replace B4 := Lib.hid h_; replace HB := Lib.hid (below_of_grown HB.out q_ L4.out HB.out.size); replace B2 := Lib.hid (blk_grown B2.out q_ (by intro e_; injection e_ with e_; exact N24.out e_)); clear h_ q_; refine hK.out _ _ B2.out (fun hHeld => ?_); clear hK K
    refine pY 5 (some 5) (ar 6 6) HT_ (h := ?_)
    refine done_ (done_of HT_.out (by kernel_rfl)) ?_
    go_wp2
    exact bodyPost_ret (results_ct rfl _ _ g4 177 _ (0, 0) _ rfl B4.out Try.underlying177 rfl (by kernel_rfl)) rfl ⟨by rw [HF.out]; rfl, HB.out⟩
  · have hfo : x.f9 = true := by simpa using hfo
    by_cases hm : t = true ∧ v.toList = x.f8.f1.toList
    · have h1 : t = true := hm.1
      subst h1
      have HF := Lib.hid (show aftF ⟨k, true, v, lo, fr⟩ x = seeF ⟨k, true, v, lo, fr⟩ x.f8.f2 by unfold aftF; rw [if_pos hr, if_neg (by rw [hfo]; decide), if_neg (fun h : true = false => by cases h), if_pos hm.2])
      have h2 : (v.toList == x.f8.f1.toList) = true := by rw [hm.2]; exact beq_self_eq_true _
      clear hm
      go_enter Try.func93, Try.ntmps93
      go_wp2_with (first
        | ((with_reducible refine gate_dst (N := 2) rfl ?_); refine box_event rfl (N := 2) rfl (cs := #[.string k, .bool true, .string v, .int .i64 lo, .int .i64 fr]) (t := 177) (by first | (go_simp; done) | (go_simp; rfl)) ?_; intro g2 e2 w2 h2 b2; have L2 := Lib.hid (Nat.le_trans HB.out.size (Nat.le_of_eq e2.symm)); replace HB := Lib.hid (below_step HB.out b2); have B2 := Lib.hid h2; clear h2 b2 e2)
        | ((with_reducible refine gate_dst (N := 3) rfl ?_); refine box_event rfl (N := 3) rfl (cs := #[.int .i64 x.f0, .int .i64 x.f1, .bool x.f2, .string x.f3, .int .i64 x.f4.f0, .string x.f4.f1, .string x.f4.f2, .int .i64 x.f4.f3, .int .i64 x.f5, .int .i64 x.f6, .int .i64 x.f7.f0, .int .i64 x.f7.f1, .string x.f8.f0, .string x.f8.f1, .int .i64 x.f8.f2, .bool x.f9]) (t := 39) (by first | (go_simp; done) | (go_simp; rfl)) ?_; intro g3 e3 w3 h3 b3; have L3 := Lib.hid (Nat.le_trans HB.out.size (Nat.le_of_eq e3.symm)); have N23 := Lib.hid (Nat.ne_of_lt (Nat.lt_of_lt_of_eq (blk_lt B2.out) e3.symm)); have N32 := Lib.hid N23.out.symm; replace B2 := Lib.hid (blk_below B2.out b3); replace HB := Lib.hid (below_step HB.out b3); have B3 := Lib.hid h3; clear h3 b3 e3)
        | ((with_reducible refine gate_dst (N := 4) rfl ?_); refine box_event rfl (N := 4) rfl (cs := #[.string ⟨#[]⟩, .bool false, .string ⟨#[]⟩, .int .i64 0, .int .i64 0]) (t := 177) (by first | (go_simp; done) | (go_simp; rfl)) ?_; intro g4 e4 w4 h4 b4; have L4 := Lib.hid (Nat.le_trans HB.out.size (Nat.le_of_eq e4.symm)); have N24 := Lib.hid (Nat.ne_of_lt (Nat.lt_of_lt_of_eq (blk_lt B2.out) e4.symm)); have N42 := Lib.hid N24.out.symm; replace B2 := Lib.hid (blk_below B2.out b4); have N34 := Lib.hid (Nat.ne_of_lt (Nat.lt_of_lt_of_eq (blk_lt B3.out) e4.symm)); have N43 := Lib.hid N34.out.symm; replace B3 := Lib.hid (blk_below B3.out b4); replace HB := Lib.hid (below_step HB.out b4); have B4 := Lib.hid h4; clear h4 b4 e4)
        | ((with_reducible refine gate_dst (N := 11) rfl ?_); refine wpList_load_cell rfl 4 (.tmp 10) rfl g3 2 rfl _ _ B3.out (.bool true) (by rw [← hr]; rfl) _ Try.underlying4 rfl ?_)
        | ((with_reducible refine gate_dst (N := 13) rfl ?_); refine wpList_load_cell rfl 4 (.tmp 12) rfl g3 15 rfl _ _ B3.out (.bool true) (by rw [← hfo]; rfl) _ Try.underlying4 rfl ?_)
        | ((with_reducible refine gate_dst (N := 20) rfl ?_); refine wpList_load_cell rfl 4 (.tmp 19) rfl g2 1 rfl _ _ B2.out _ rfl _ Try.underlying4 rfl ?_)
        | ((with_reducible refine gate_dst (N := 24) rfl ?_); (try (refine gate_guard (by rfl) ?_; dsimp only)); refine wpList_load_cell rfl 9 (.tmp 23) rfl g2 2 rfl _ _ B2.out _ rfl _ Try.underlying9 rfl ?_)
        | ((with_reducible refine gate_dst (N := 27) rfl ?_); (try (refine gate_guard (by rfl) ?_; dsimp only)); refine wpList_load_cell rfl 9 (.tmp 26) rfl g3 13 rfl _ _ B3.out _ rfl _ Try.underlying9 rfl ?_)
        | ((with_reducible refine gate_dst (N := 31) rfl ?_); refine wpList_load_row rfl 177 (.tmp 2) rfl g2 rfl 177 _ (0, 0) _ B2.out Try.underlying177 rfl (by kernel_rfl) ?_)
        | ((with_reducible refine gate_dst (N := 34) rfl ?_); refine wpList_load_cell rfl 3 (.tmp 33) rfl g3 14 rfl _ _ B3.out _ rfl _ Try.underlying3 rfl ?_)
        | (go_at_call 126; (with_reducible refine (seen_any _ _ _ _ _ _ _).mono ?_); rintro e_ W_ ⟨rfl, hb⟩; replace B2 := Lib.hid (blk_below B2.out hb); replace B3 := Lib.hid (blk_below B3.out hb); replace B4 := Lib.hid (blk_below B4.out hb); replace HB := Lib.hid (below_step HB.out hb); clear hb)
        | ((with_reducible refine gate_store (t := 177) (p := 4) rfl ?_); refine store_row_event rfl 177 (.tmp 4) (.tmp 36) rfl g4 _ rfl rfl 177 _ B4.out (by kernel_rfl) rfl (by simp [Value.oneCell', ssA]) ?_; intro v364 h_ q_; replace B2 := Lib.hid (blk_grown B2.out q_ (by intro e_; injection e_ with e_; exact N24.out e_)); replace B3 := Lib.hid (blk_grown B3.out q_ (by intro e_; injection e_ with e_; exact N34.out e_)); replace HB := Lib.hid (below_of_grown HB.out q_ L4.out HB.out.size); replace B4 := Lib.hid h_; clear h_ q_)
        | (fail))
      exact bodyPost_ret (results_ct rfl _ _ g4 177 _ (0, 0) _ rfl B4.out Try.underlying177 rfl (by kernel_rfl)) rfl ⟨by rw [HF.out]; rfl, HB.out⟩
    · cases h1 : t with
      | false =>
        subst h1
        have HF := Lib.hid (show aftF ⟨k, false, v, lo, fr⟩ x = (⟨k, false, v, lo, fr⟩, false) by unfold aftF; rw [if_pos hr, if_neg (by rw [hfo]; decide), if_pos rfl])
        go_enter Try.func93, Try.ntmps93
        go_wp2_with (first
          | ((with_reducible refine gate_dst (N := 2) rfl ?_); refine box_event rfl (N := 2) rfl (cs := #[.string k, .bool false, .string v, .int .i64 lo, .int .i64 fr]) (t := 177) (by first | (go_simp; done) | (go_simp; rfl)) ?_; intro g2 e2 w2 h2 b2; have L2 := Lib.hid (Nat.le_trans HB.out.size (Nat.le_of_eq e2.symm)); replace HB := Lib.hid (below_step HB.out b2); have B2 := Lib.hid h2; clear h2 b2 e2)
          | ((with_reducible refine gate_dst (N := 3) rfl ?_); refine box_event rfl (N := 3) rfl (cs := #[.int .i64 x.f0, .int .i64 x.f1, .bool x.f2, .string x.f3, .int .i64 x.f4.f0, .string x.f4.f1, .string x.f4.f2, .int .i64 x.f4.f3, .int .i64 x.f5, .int .i64 x.f6, .int .i64 x.f7.f0, .int .i64 x.f7.f1, .string x.f8.f0, .string x.f8.f1, .int .i64 x.f8.f2, .bool x.f9]) (t := 39) (by first | (go_simp; done) | (go_simp; rfl)) ?_; intro g3 e3 w3 h3 b3; have L3 := Lib.hid (Nat.le_trans HB.out.size (Nat.le_of_eq e3.symm)); have N23 := Lib.hid (Nat.ne_of_lt (Nat.lt_of_lt_of_eq (blk_lt B2.out) e3.symm)); have N32 := Lib.hid N23.out.symm; replace B2 := Lib.hid (blk_below B2.out b3); replace HB := Lib.hid (below_step HB.out b3); have B3 := Lib.hid h3; clear h3 b3 e3)
          | ((with_reducible refine gate_dst (N := 4) rfl ?_); refine box_event rfl (N := 4) rfl (cs := #[.string ⟨#[]⟩, .bool false, .string ⟨#[]⟩, .int .i64 0, .int .i64 0]) (t := 177) (by first | (go_simp; done) | (go_simp; rfl)) ?_; intro g4 e4 w4 h4 b4; have L4 := Lib.hid (Nat.le_trans HB.out.size (Nat.le_of_eq e4.symm)); have N24 := Lib.hid (Nat.ne_of_lt (Nat.lt_of_lt_of_eq (blk_lt B2.out) e4.symm)); have N42 := Lib.hid N24.out.symm; replace B2 := Lib.hid (blk_below B2.out b4); have N34 := Lib.hid (Nat.ne_of_lt (Nat.lt_of_lt_of_eq (blk_lt B3.out) e4.symm)); have N43 := Lib.hid N34.out.symm; replace B3 := Lib.hid (blk_below B3.out b4); replace HB := Lib.hid (below_step HB.out b4); have B4 := Lib.hid h4; clear h4 b4 e4)
          | ((with_reducible refine gate_dst (N := 11) rfl ?_); refine wpList_load_cell rfl 4 (.tmp 10) rfl g3 2 rfl _ _ B3.out (.bool true) (by rw [← hr]; rfl) _ Try.underlying4 rfl ?_)
          | ((with_reducible refine gate_dst (N := 13) rfl ?_); refine wpList_load_cell rfl 4 (.tmp 12) rfl g3 15 rfl _ _ B3.out (.bool true) (by rw [← hfo]; rfl) _ Try.underlying4 rfl ?_)
          | ((with_reducible refine gate_dst (N := 20) rfl ?_); refine wpList_load_cell rfl 4 (.tmp 19) rfl g2 1 rfl _ _ B2.out _ rfl _ Try.underlying4 rfl ?_)
          | ((with_reducible refine gate_dst (N := 24) rfl ?_); (try (refine gate_guard (by rfl) ?_; dsimp only)); refine wpList_load_cell rfl 9 (.tmp 23) rfl g2 2 rfl _ _ B2.out _ rfl _ Try.underlying9 rfl ?_)
          | ((with_reducible refine gate_dst (N := 27) rfl ?_); (try (refine gate_guard (by rfl) ?_; dsimp only)); refine wpList_load_cell rfl 9 (.tmp 26) rfl g3 13 rfl _ _ B3.out _ rfl _ Try.underlying9 rfl ?_)
          | ((with_reducible refine gate_dst (N := 30) rfl ?_); refine wpList_load_row rfl 177 (.tmp 2) rfl g2 rfl 177 _ (0, 0) _ B2.out Try.underlying177 rfl (by kernel_rfl) ?_)
          | ((with_reducible refine gate_store (t := 177) (p := 4) rfl ?_); refine store_row_event rfl 177 (.tmp 4) (.tmp 30) rfl g4 _ rfl rfl 177 _ B4.out (by kernel_rfl) rfl (by simp [Value.oneCell', ssA]) ?_; intro v304 h_ q_; replace B2 := Lib.hid (blk_grown B2.out q_ (by intro e_; injection e_ with e_; exact N24.out e_)); replace B3 := Lib.hid (blk_grown B3.out q_ (by intro e_; injection e_ with e_; exact N34.out e_)); replace HB := Lib.hid (below_of_grown HB.out q_ L4.out HB.out.size); replace B4 := Lib.hid h_; clear h_ q_)
          | (fail))
        exact bodyPost_ret (results_ct rfl _ _ g4 177 _ (0, 0) _ rfl B4.out Try.underlying177 rfl (by kernel_rfl)) rfl ⟨by rw [HF.out]; rfl, HB.out⟩
      | true =>
        subst h1
        have h2 : (v.toList == x.f8.f1.toList) = false := by simpa using fun h => hm ⟨rfl, h⟩
        have HF := Lib.hid (show aftF ⟨k, true, v, lo, fr⟩ x = (⟨k, true, v, lo, fr⟩, false) by unfold aftF; rw [if_pos hr, if_neg (by rw [hfo]; decide), if_neg (fun h : true = false => by cases h), if_neg (fun h => hm ⟨rfl, h⟩)])
        clear hm
        go_enter Try.func93, Try.ntmps93
        go_wp2_with (first
          | ((with_reducible refine gate_dst (N := 2) rfl ?_); refine box_event rfl (N := 2) rfl (cs := #[.string k, .bool true, .string v, .int .i64 lo, .int .i64 fr]) (t := 177) (by first | (go_simp; done) | (go_simp; rfl)) ?_; intro g2 e2 w2 h2 b2; have L2 := Lib.hid (Nat.le_trans HB.out.size (Nat.le_of_eq e2.symm)); replace HB := Lib.hid (below_step HB.out b2); have B2 := Lib.hid h2; clear h2 b2 e2)
          | ((with_reducible refine gate_dst (N := 3) rfl ?_); refine box_event rfl (N := 3) rfl (cs := #[.int .i64 x.f0, .int .i64 x.f1, .bool x.f2, .string x.f3, .int .i64 x.f4.f0, .string x.f4.f1, .string x.f4.f2, .int .i64 x.f4.f3, .int .i64 x.f5, .int .i64 x.f6, .int .i64 x.f7.f0, .int .i64 x.f7.f1, .string x.f8.f0, .string x.f8.f1, .int .i64 x.f8.f2, .bool x.f9]) (t := 39) (by first | (go_simp; done) | (go_simp; rfl)) ?_; intro g3 e3 w3 h3 b3; have L3 := Lib.hid (Nat.le_trans HB.out.size (Nat.le_of_eq e3.symm)); have N23 := Lib.hid (Nat.ne_of_lt (Nat.lt_of_lt_of_eq (blk_lt B2.out) e3.symm)); have N32 := Lib.hid N23.out.symm; replace B2 := Lib.hid (blk_below B2.out b3); replace HB := Lib.hid (below_step HB.out b3); have B3 := Lib.hid h3; clear h3 b3 e3)
          | ((with_reducible refine gate_dst (N := 4) rfl ?_); refine box_event rfl (N := 4) rfl (cs := #[.string ⟨#[]⟩, .bool false, .string ⟨#[]⟩, .int .i64 0, .int .i64 0]) (t := 177) (by first | (go_simp; done) | (go_simp; rfl)) ?_; intro g4 e4 w4 h4 b4; have L4 := Lib.hid (Nat.le_trans HB.out.size (Nat.le_of_eq e4.symm)); have N24 := Lib.hid (Nat.ne_of_lt (Nat.lt_of_lt_of_eq (blk_lt B2.out) e4.symm)); have N42 := Lib.hid N24.out.symm; replace B2 := Lib.hid (blk_below B2.out b4); have N34 := Lib.hid (Nat.ne_of_lt (Nat.lt_of_lt_of_eq (blk_lt B3.out) e4.symm)); have N43 := Lib.hid N34.out.symm; replace B3 := Lib.hid (blk_below B3.out b4); replace HB := Lib.hid (below_step HB.out b4); have B4 := Lib.hid h4; clear h4 b4 e4)
          | ((with_reducible refine gate_dst (N := 11) rfl ?_); refine wpList_load_cell rfl 4 (.tmp 10) rfl g3 2 rfl _ _ B3.out (.bool true) (by rw [← hr]; rfl) _ Try.underlying4 rfl ?_)
          | ((with_reducible refine gate_dst (N := 13) rfl ?_); refine wpList_load_cell rfl 4 (.tmp 12) rfl g3 15 rfl _ _ B3.out (.bool true) (by rw [← hfo]; rfl) _ Try.underlying4 rfl ?_)
          | ((with_reducible refine gate_dst (N := 20) rfl ?_); refine wpList_load_cell rfl 4 (.tmp 19) rfl g2 1 rfl _ _ B2.out _ rfl _ Try.underlying4 rfl ?_)
          | ((with_reducible refine gate_dst (N := 24) rfl ?_); (try (refine gate_guard (by rfl) ?_; dsimp only)); refine wpList_load_cell rfl 9 (.tmp 23) rfl g2 2 rfl _ _ B2.out _ rfl _ Try.underlying9 rfl ?_)
          | ((with_reducible refine gate_dst (N := 27) rfl ?_); (try (refine gate_guard (by rfl) ?_; dsimp only)); refine wpList_load_cell rfl 9 (.tmp 26) rfl g3 13 rfl _ _ B3.out _ rfl _ Try.underlying9 rfl ?_)
          | ((with_reducible refine gate_dst (N := 30) rfl ?_); refine wpList_load_row rfl 177 (.tmp 2) rfl g2 rfl 177 _ (0, 0) _ B2.out Try.underlying177 rfl (by kernel_rfl) ?_)
          | ((with_reducible refine gate_store (t := 177) (p := 4) rfl ?_); refine store_row_event rfl 177 (.tmp 4) (.tmp 30) rfl g4 _ rfl rfl 177 _ B4.out (by kernel_rfl) rfl (by simp [Value.oneCell', ssA]) ?_; intro v304 h_ q_; replace B2 := Lib.hid (blk_grown B2.out q_ (by intro e_; injection e_ with e_; exact N24.out e_)); replace B3 := Lib.hid (blk_grown B3.out q_ (by intro e_; injection e_ with e_; exact N34.out e_)); replace HB := Lib.hid (below_of_grown HB.out q_ L4.out HB.out.size); replace B4 := Lib.hid h_; clear h_ q_)
          | (fail))
        exact bodyPost_ret (results_ct rfl _ _ g4 177 _ (0, 0) _ rfl B4.out Try.underlying177 rfl (by kernel_rfl)) rfl ⟨by rw [HF.out]; rfl, HB.out⟩
theorem ranswered_u (x : S39) (b : Bool) (hr : x.f2 = false) (h : ansB x = b) (W : World) : Calls Try.prog 44 #[.agg #[.int .i64 x.f0, .int .i64 x.f1, .bool false, .string x.f3, .int .i64 x.f4.f0, .string x.f4.f1, .string x.f4.f2, .int .i64 x.f4.f3, .int .i64 x.f5, .int .i64 x.f6, .int .i64 x.f7.f0, .int .i64 x.f7.f1, .string x.f8.f0, .string x.f8.f1, .int .i64 x.f8.f2, .bool x.f9]] W fun e w' => e = .returned (.bool b) ∧ Below W.heap.size W w' := by
  have h2 := ranswered_ag x b h W
  rw [hr] at h2
  exact h2
set_option maxRecDepth 100000 in
set_option maxHeartbeats 8000000 in
theorem after_upd (k : ByteArray) (t : Bool) (v : ByteArray) (lo fr : Int) (x : S39) (hr : x.f2 = false) (w : World) : Calls Try.prog 93 #[.agg #[.string k, .bool t, .string v, .int .i64 lo, .int .i64 fr], .agg #[.int .i64 x.f0, .int .i64 x.f1, .bool x.f2, .string x.f3, .int .i64 x.f4.f0, .string x.f4.f1, .string x.f4.f2, .int .i64 x.f4.f3, .int .i64 x.f5, .int .i64 x.f6, .int .i64 x.f7.f0, .int .i64 x.f7.f1, .string x.f8.f0, .string x.f8.f1, .int .i64 x.f8.f2, .bool x.f9]] w fun e w' => e = .returned (.tuple #[ssA (aftF ⟨k, t, v, lo, fr⟩ x).1, .bool (aftF ⟨k, t, v, lo, fr⟩ x).2]) ∧ Below w.heap.size w w' := by
  have HB := Lib.hid (Below.refl w.heap.size w)
  cases ha : ansB x with
  | false =>
    have HA := Lib.hid (ranswered_u x false hr ha)
    by_cases k2 : x.f4.f0 = 2
    · have kb2 : (x.f4.f0 == 2) = true := by rw [k2]; rfl
      have HF := Lib.hid (show aftF ⟨k, t, v, lo, fr⟩ x = goeF ⟨k, t, v, lo, fr⟩ x.f7.f1 by unfold aftF; rw [if_neg (by rw [hr]; decide), if_neg (fun h => by rcases h with h | h <;> (rw [ha] at h; exact absurd h.1 (by decide))), if_neg (fun h => by rw [ha] at h; exact absurd h.1 (by decide)), if_pos k2])
      clear k2 ha
      go_enter Try.func93, Try.ntmps93
      go_upto_region 7 with (first
        | ((with_reducible refine gate_dst (N := 2) rfl ?_); refine box_event rfl (N := 2) rfl (cs := #[.string k, .bool t, .string v, .int .i64 lo, .int .i64 fr]) (t := 177) (by first | (go_simp; done) | (go_simp; rfl)) ?_; intro g2 e2 w2 h2 b2; have L2 := Lib.hid (Nat.le_trans HB.out.size (Nat.le_of_eq e2.symm)); replace HB := Lib.hid (below_step HB.out b2); have B2 := Lib.hid h2; clear h2 b2 e2)
        | ((with_reducible refine gate_dst (N := 3) rfl ?_); refine box_event rfl (N := 3) rfl (cs := #[.int .i64 x.f0, .int .i64 x.f1, .bool x.f2, .string x.f3, .int .i64 x.f4.f0, .string x.f4.f1, .string x.f4.f2, .int .i64 x.f4.f3, .int .i64 x.f5, .int .i64 x.f6, .int .i64 x.f7.f0, .int .i64 x.f7.f1, .string x.f8.f0, .string x.f8.f1, .int .i64 x.f8.f2, .bool x.f9]) (t := 39) (by first | (go_simp; done) | (go_simp; rfl)) ?_; intro g3 e3 w3 h3 b3; have L3 := Lib.hid (Nat.le_trans HB.out.size (Nat.le_of_eq e3.symm)); have N23 := Lib.hid (Nat.ne_of_lt (Nat.lt_of_lt_of_eq (blk_lt B2.out) e3.symm)); have N32 := Lib.hid N23.out.symm; replace B2 := Lib.hid (blk_below B2.out b3); replace HB := Lib.hid (below_step HB.out b3); have B3 := Lib.hid h3; clear h3 b3 e3)
        | ((with_reducible refine gate_dst (N := 4) rfl ?_); refine box_event rfl (N := 4) rfl (cs := #[.string ⟨#[]⟩, .bool false, .string ⟨#[]⟩, .int .i64 0, .int .i64 0]) (t := 177) (by first | (go_simp; done) | (go_simp; rfl)) ?_; intro g4 e4 w4 h4 b4; have L4 := Lib.hid (Nat.le_trans HB.out.size (Nat.le_of_eq e4.symm)); have N24 := Lib.hid (Nat.ne_of_lt (Nat.lt_of_lt_of_eq (blk_lt B2.out) e4.symm)); have N42 := Lib.hid N24.out.symm; replace B2 := Lib.hid (blk_below B2.out b4); have N34 := Lib.hid (Nat.ne_of_lt (Nat.lt_of_lt_of_eq (blk_lt B3.out) e4.symm)); have N43 := Lib.hid N34.out.symm; replace B3 := Lib.hid (blk_below B3.out b4); replace HB := Lib.hid (below_step HB.out b4); have B4 := Lib.hid h4; clear h4 b4 e4)
        | ((with_reducible refine gate_dst (N := 11) rfl ?_); refine wpList_load_cell rfl 4 (.tmp 10) rfl g3 2 rfl _ _ B3.out (.bool false) (by rw [← hr]; rfl) _ Try.underlying4 rfl ?_)
        | (fail))
      have z4 := (blk_cell B3.out 4).trans (show _ = some (Value.int .i64 x.f4.f0) from rfl)
      have z10 := (blk_cell B3.out 10).trans (show _ = some (Value.int .i64 x.f7.f0) from rfl)
      go_quiet (fail)
      have HB := Lib.hid (pw_below_drewN HB.out nq)
      have B2 := Lib.hid (blk_drewN B2.out nq)
      have B3 := Lib.hid (blk_drewN B3.out nq)
      have B4 := Lib.hid (blk_drewN B4.out nq)
      clear z4 z10
      go_wp2_with (first
        | ((with_reducible refine gate_dst (N := 44) rfl ?_); refine wpList_load_row rfl 39 (.tmp 3) rfl g3 rfl 39 _ (0, 0) _ B3.out Try.underlying39 rfl (by kernel_rfl) ?_)
        | (go_at_call 44; (with_reducible refine (HA.out _).mono ?_); rintro e_ W_ ⟨rfl, hb⟩; replace B2 := Lib.hid (blk_below B2.out hb); replace B3 := Lib.hid (blk_below B3.out hb); replace B4 := Lib.hid (blk_below B4.out hb); replace HB := Lib.hid (below_step HB.out hb); clear hb)
        | ((with_reducible refine gate_dst (N := 68) rfl ?_); refine wpList_load_row rfl 177 (.tmp 2) rfl g2 rfl 177 _ (0, 0) _ B2.out Try.underlying177 rfl (by kernel_rfl) ?_)
        | ((with_reducible refine gate_dst (N := 71) rfl ?_); refine wpList_load_cell rfl 3 (.tmp 70) rfl g3 11 rfl _ _ B3.out _ rfl _ Try.underlying3 rfl ?_)
        | (go_at_call 128; (with_reducible refine (goes_any _ _ _ _ _ _ _).mono ?_); rintro e_ W_ ⟨rfl, hb⟩; replace B2 := Lib.hid (blk_below B2.out hb); replace B3 := Lib.hid (blk_below B3.out hb); replace B4 := Lib.hid (blk_below B4.out hb); replace HB := Lib.hid (below_step HB.out hb); clear hb)
        | ((with_reducible refine gate_store (t := 177) (p := 4) rfl ?_); refine store_row_event rfl 177 (.tmp 4) (.tmp 73) rfl g4 _ rfl rfl 177 _ B4.out (by kernel_rfl) rfl (by simp [Value.oneCell', ssA]) ?_; intro v734 h_ q_; replace B2 := Lib.hid (blk_grown B2.out q_ (by intro e_; injection e_ with e_; exact N24.out e_)); replace B3 := Lib.hid (blk_grown B3.out q_ (by intro e_; injection e_ with e_; exact N34.out e_)); replace HB := Lib.hid (below_of_grown HB.out q_ L4.out HB.out.size); replace B4 := Lib.hid h_; clear h_ q_)
        | (fail))
      exact bodyPost_ret (results_ct rfl _ _ g4 177 _ (0, 0) _ rfl B4.out Try.underlying177 rfl (by kernel_rfl)) rfl ⟨by rw [HF.out]; rfl, HB.out⟩
    · have kb2 : (x.f4.f0 == 2) = false := by simpa using k2
      by_cases k3 : x.f4.f0 = 3
      · have kb3 : (x.f4.f0 == 3) = true := by rw [k3]; rfl
        obtain ⟨⟨p, pb⟩, hp⟩ : ∃ q, verF ⟨k, t, v, lo, fr⟩ x.f4.f3 = q := ⟨_, rfl⟩
        have HV := Lib.hid (fun W => (show Calls Try.prog 127 #[.agg #[.string k, .bool t, .string v, .int .i64 lo, .int .i64 fr], .int .i64 x.f4.f3] W (fun e w' => e = .returned (.tuple #[ssA p, .bool pb]) ∧ Below W.heap.size W w') from by have h := version_any k t v lo fr x.f4.f3 W; rw [hp] at h; exact h))
        cases pb with
        | false =>
          have HF := Lib.hid (show aftF ⟨k, t, v, lo, fr⟩ x = (⟨k, t, v, lo, fr⟩, false) by unfold aftF; rw [if_neg (by rw [hr]; decide), if_neg (fun h => by rcases h with h | h <;> (rw [ha] at h; exact absurd h.1 (by decide))), if_neg (fun h => by rw [ha] at h; exact absurd h.1 (by decide)), if_neg k2, if_pos k3, hp, if_neg (fun h : false = true => by cases h)])
          clear k2 k3 hp ha
          go_enter Try.func93, Try.ntmps93
          go_upto_region 7 with (first
            | ((with_reducible refine gate_dst (N := 2) rfl ?_); refine box_event rfl (N := 2) rfl (cs := #[.string k, .bool t, .string v, .int .i64 lo, .int .i64 fr]) (t := 177) (by first | (go_simp; done) | (go_simp; rfl)) ?_; intro g2 e2 w2 h2 b2; have L2 := Lib.hid (Nat.le_trans HB.out.size (Nat.le_of_eq e2.symm)); replace HB := Lib.hid (below_step HB.out b2); have B2 := Lib.hid h2; clear h2 b2 e2)
            | ((with_reducible refine gate_dst (N := 3) rfl ?_); refine box_event rfl (N := 3) rfl (cs := #[.int .i64 x.f0, .int .i64 x.f1, .bool x.f2, .string x.f3, .int .i64 x.f4.f0, .string x.f4.f1, .string x.f4.f2, .int .i64 x.f4.f3, .int .i64 x.f5, .int .i64 x.f6, .int .i64 x.f7.f0, .int .i64 x.f7.f1, .string x.f8.f0, .string x.f8.f1, .int .i64 x.f8.f2, .bool x.f9]) (t := 39) (by first | (go_simp; done) | (go_simp; rfl)) ?_; intro g3 e3 w3 h3 b3; have L3 := Lib.hid (Nat.le_trans HB.out.size (Nat.le_of_eq e3.symm)); have N23 := Lib.hid (Nat.ne_of_lt (Nat.lt_of_lt_of_eq (blk_lt B2.out) e3.symm)); have N32 := Lib.hid N23.out.symm; replace B2 := Lib.hid (blk_below B2.out b3); replace HB := Lib.hid (below_step HB.out b3); have B3 := Lib.hid h3; clear h3 b3 e3)
            | ((with_reducible refine gate_dst (N := 4) rfl ?_); refine box_event rfl (N := 4) rfl (cs := #[.string ⟨#[]⟩, .bool false, .string ⟨#[]⟩, .int .i64 0, .int .i64 0]) (t := 177) (by first | (go_simp; done) | (go_simp; rfl)) ?_; intro g4 e4 w4 h4 b4; have L4 := Lib.hid (Nat.le_trans HB.out.size (Nat.le_of_eq e4.symm)); have N24 := Lib.hid (Nat.ne_of_lt (Nat.lt_of_lt_of_eq (blk_lt B2.out) e4.symm)); have N42 := Lib.hid N24.out.symm; replace B2 := Lib.hid (blk_below B2.out b4); have N34 := Lib.hid (Nat.ne_of_lt (Nat.lt_of_lt_of_eq (blk_lt B3.out) e4.symm)); have N43 := Lib.hid N34.out.symm; replace B3 := Lib.hid (blk_below B3.out b4); replace HB := Lib.hid (below_step HB.out b4); have B4 := Lib.hid h4; clear h4 b4 e4)
            | ((with_reducible refine gate_dst (N := 11) rfl ?_); refine wpList_load_cell rfl 4 (.tmp 10) rfl g3 2 rfl _ _ B3.out (.bool false) (by rw [← hr]; rfl) _ Try.underlying4 rfl ?_)
            | (fail))
          have z4 := (blk_cell B3.out 4).trans (show _ = some (Value.int .i64 x.f4.f0) from rfl)
          have z10 := (blk_cell B3.out 10).trans (show _ = some (Value.int .i64 x.f7.f0) from rfl)
          go_quiet (fail)
          have HB := Lib.hid (pw_below_drewN HB.out nq)
          have B2 := Lib.hid (blk_drewN B2.out nq)
          have B3 := Lib.hid (blk_drewN B3.out nq)
          have B4 := Lib.hid (blk_drewN B4.out nq)
          clear z4 z10
          go_wp2_with (first
            | ((with_reducible refine gate_dst (N := 44) rfl ?_); refine wpList_load_row rfl 39 (.tmp 3) rfl g3 rfl 39 _ (0, 0) _ B3.out Try.underlying39 rfl (by kernel_rfl) ?_)
            | (go_at_call 44; (with_reducible refine (HA.out _).mono ?_); rintro e_ W_ ⟨rfl, hb⟩; replace B2 := Lib.hid (blk_below B2.out hb); replace B3 := Lib.hid (blk_below B3.out hb); replace B4 := Lib.hid (blk_below B4.out hb); replace HB := Lib.hid (below_step HB.out hb); clear hb)
            | ((with_reducible refine gate_dst (N := 78) rfl ?_); refine wpList_load_row rfl 177 (.tmp 2) rfl g2 rfl 177 _ (0, 0) _ B2.out Try.underlying177 rfl (by kernel_rfl) ?_)
            | ((with_reducible refine gate_dst (N := 81) rfl ?_); refine wpList_load_cell rfl 3 (.tmp 80) rfl g3 7 rfl _ _ B3.out _ rfl _ Try.underlying3 rfl ?_)
            | (go_at_call 127; (with_reducible refine (HV.out _).mono ?_); rintro e_ W_ ⟨rfl, hb⟩; replace B2 := Lib.hid (blk_below B2.out hb); replace B3 := Lib.hid (blk_below B3.out hb); replace B4 := Lib.hid (blk_below B4.out hb); replace HB := Lib.hid (below_step HB.out hb); clear hb)
            | ((with_reducible refine gate_dst (N := 8) rfl ?_); refine box_event rfl (N := 8) rfl (cs := #[.string ⟨#[]⟩, .bool false, .string ⟨#[]⟩, .int .i64 0, .int .i64 0]) (t := 177) (by first | (go_simp; done) | (go_simp; rfl)) ?_; intro g8 e8 w8 h8 b8; have L8 := Lib.hid (Nat.le_trans HB.out.size (Nat.le_of_eq e8.symm)); have N28 := Lib.hid (Nat.ne_of_lt (Nat.lt_of_lt_of_eq (blk_lt B2.out) e8.symm)); have N82 := Lib.hid N28.out.symm; replace B2 := Lib.hid (blk_below B2.out b8); have N38 := Lib.hid (Nat.ne_of_lt (Nat.lt_of_lt_of_eq (blk_lt B3.out) e8.symm)); have N83 := Lib.hid N38.out.symm; replace B3 := Lib.hid (blk_below B3.out b8); have N48 := Lib.hid (Nat.ne_of_lt (Nat.lt_of_lt_of_eq (blk_lt B4.out) e8.symm)); have N84 := Lib.hid N48.out.symm; replace B4 := Lib.hid (blk_below B4.out b8); replace HB := Lib.hid (below_step HB.out b8); have B8 := Lib.hid h8; clear h8 b8 e8)
            | ((with_reducible refine gate_store (t := 177) (p := 8) rfl ?_); refine store_row_event rfl 177 (.tmp 8) (.tmp 83) rfl g8 _ rfl rfl 177 _ B8.out (by kernel_rfl) rfl (by simp [Value.oneCell', ssA]) ?_; intro v838 h_ q_; replace B2 := Lib.hid (blk_grown B2.out q_ (by intro e_; injection e_ with e_; exact N28.out e_)); replace B3 := Lib.hid (blk_grown B3.out q_ (by intro e_; injection e_ with e_; exact N38.out e_)); replace B4 := Lib.hid (blk_grown B4.out q_ (by intro e_; injection e_ with e_; exact N48.out e_)); replace HB := Lib.hid (below_of_grown HB.out q_ L8.out HB.out.size); replace B8 := Lib.hid h_; clear h_ q_)
            | ((with_reducible refine gate_dst (N := 87) rfl ?_); refine wpList_load_row rfl 177 (.tmp 2) rfl g2 rfl 177 _ (0, 0) _ B2.out Try.underlying177 rfl (by kernel_rfl) ?_)
            | ((with_reducible refine gate_store (t := 177) (p := 4) rfl ?_); refine store_row_event rfl 177 (.tmp 4) (.tmp 87) rfl g4 _ rfl rfl 177 _ B4.out (by kernel_rfl) rfl (by simp [Value.oneCell', ssA]) ?_; intro v874 h_ q_; replace B2 := Lib.hid (blk_grown B2.out q_ (by intro e_; injection e_ with e_; exact N24.out e_)); replace B3 := Lib.hid (blk_grown B3.out q_ (by intro e_; injection e_ with e_; exact N34.out e_)); replace HB := Lib.hid (below_of_grown HB.out q_ L4.out HB.out.size); replace B4 := Lib.hid h_; clear h_ q_)
            | (fail))
          exact bodyPost_ret (results_ct rfl _ _ g4 177 _ (0, 0) _ rfl B4.out Try.underlying177 rfl (by kernel_rfl)) rfl ⟨by rw [HF.out]; rfl, HB.out⟩
        | true =>
          have HF := Lib.hid (show aftF ⟨k, t, v, lo, fr⟩ x = putF p x.f4.f2 x.f7.f1 by unfold aftF; rw [if_neg (by rw [hr]; decide), if_neg (fun h => by rcases h with h | h <;> (rw [ha] at h; exact absurd h.1 (by decide))), if_neg (fun h => by rw [ha] at h; exact absurd h.1 (by decide)), if_neg k2, if_pos k3, hp, if_pos rfl])
          clear k2 k3 hp ha
          go_enter Try.func93, Try.ntmps93
          go_upto_region 7 with (first
            | ((with_reducible refine gate_dst (N := 2) rfl ?_); refine box_event rfl (N := 2) rfl (cs := #[.string k, .bool t, .string v, .int .i64 lo, .int .i64 fr]) (t := 177) (by first | (go_simp; done) | (go_simp; rfl)) ?_; intro g2 e2 w2 h2 b2; have L2 := Lib.hid (Nat.le_trans HB.out.size (Nat.le_of_eq e2.symm)); replace HB := Lib.hid (below_step HB.out b2); have B2 := Lib.hid h2; clear h2 b2 e2)
            | ((with_reducible refine gate_dst (N := 3) rfl ?_); refine box_event rfl (N := 3) rfl (cs := #[.int .i64 x.f0, .int .i64 x.f1, .bool x.f2, .string x.f3, .int .i64 x.f4.f0, .string x.f4.f1, .string x.f4.f2, .int .i64 x.f4.f3, .int .i64 x.f5, .int .i64 x.f6, .int .i64 x.f7.f0, .int .i64 x.f7.f1, .string x.f8.f0, .string x.f8.f1, .int .i64 x.f8.f2, .bool x.f9]) (t := 39) (by first | (go_simp; done) | (go_simp; rfl)) ?_; intro g3 e3 w3 h3 b3; have L3 := Lib.hid (Nat.le_trans HB.out.size (Nat.le_of_eq e3.symm)); have N23 := Lib.hid (Nat.ne_of_lt (Nat.lt_of_lt_of_eq (blk_lt B2.out) e3.symm)); have N32 := Lib.hid N23.out.symm; replace B2 := Lib.hid (blk_below B2.out b3); replace HB := Lib.hid (below_step HB.out b3); have B3 := Lib.hid h3; clear h3 b3 e3)
            | ((with_reducible refine gate_dst (N := 4) rfl ?_); refine box_event rfl (N := 4) rfl (cs := #[.string ⟨#[]⟩, .bool false, .string ⟨#[]⟩, .int .i64 0, .int .i64 0]) (t := 177) (by first | (go_simp; done) | (go_simp; rfl)) ?_; intro g4 e4 w4 h4 b4; have L4 := Lib.hid (Nat.le_trans HB.out.size (Nat.le_of_eq e4.symm)); have N24 := Lib.hid (Nat.ne_of_lt (Nat.lt_of_lt_of_eq (blk_lt B2.out) e4.symm)); have N42 := Lib.hid N24.out.symm; replace B2 := Lib.hid (blk_below B2.out b4); have N34 := Lib.hid (Nat.ne_of_lt (Nat.lt_of_lt_of_eq (blk_lt B3.out) e4.symm)); have N43 := Lib.hid N34.out.symm; replace B3 := Lib.hid (blk_below B3.out b4); replace HB := Lib.hid (below_step HB.out b4); have B4 := Lib.hid h4; clear h4 b4 e4)
            | ((with_reducible refine gate_dst (N := 11) rfl ?_); refine wpList_load_cell rfl 4 (.tmp 10) rfl g3 2 rfl _ _ B3.out (.bool false) (by rw [← hr]; rfl) _ Try.underlying4 rfl ?_)
            | (fail))
          have z4 := (blk_cell B3.out 4).trans (show _ = some (Value.int .i64 x.f4.f0) from rfl)
          have z10 := (blk_cell B3.out 10).trans (show _ = some (Value.int .i64 x.f7.f0) from rfl)
          go_quiet (fail)
          have HB := Lib.hid (pw_below_drewN HB.out nq)
          have B2 := Lib.hid (blk_drewN B2.out nq)
          have B3 := Lib.hid (blk_drewN B3.out nq)
          have B4 := Lib.hid (blk_drewN B4.out nq)
          clear z4 z10
          go_wp2_with (first
            | ((with_reducible refine gate_dst (N := 44) rfl ?_); refine wpList_load_row rfl 39 (.tmp 3) rfl g3 rfl 39 _ (0, 0) _ B3.out Try.underlying39 rfl (by kernel_rfl) ?_)
            | (go_at_call 44; (with_reducible refine (HA.out _).mono ?_); rintro e_ W_ ⟨rfl, hb⟩; replace B2 := Lib.hid (blk_below B2.out hb); replace B3 := Lib.hid (blk_below B3.out hb); replace B4 := Lib.hid (blk_below B4.out hb); replace HB := Lib.hid (below_step HB.out hb); clear hb)
            | ((with_reducible refine gate_dst (N := 78) rfl ?_); refine wpList_load_row rfl 177 (.tmp 2) rfl g2 rfl 177 _ (0, 0) _ B2.out Try.underlying177 rfl (by kernel_rfl) ?_)
            | ((with_reducible refine gate_dst (N := 81) rfl ?_); refine wpList_load_cell rfl 3 (.tmp 80) rfl g3 7 rfl _ _ B3.out _ rfl _ Try.underlying3 rfl ?_)
            | (go_at_call 127; (with_reducible refine (HV.out _).mono ?_); rintro e_ W_ ⟨rfl, hb⟩; replace B2 := Lib.hid (blk_below B2.out hb); replace B3 := Lib.hid (blk_below B3.out hb); replace B4 := Lib.hid (blk_below B4.out hb); replace HB := Lib.hid (below_step HB.out hb); clear hb)
            | ((with_reducible refine gate_dst (N := 8) rfl ?_); refine box_event rfl (N := 8) rfl (cs := #[.string ⟨#[]⟩, .bool false, .string ⟨#[]⟩, .int .i64 0, .int .i64 0]) (t := 177) (by first | (go_simp; done) | (go_simp; rfl)) ?_; intro g8 e8 w8 h8 b8; have L8 := Lib.hid (Nat.le_trans HB.out.size (Nat.le_of_eq e8.symm)); have N28 := Lib.hid (Nat.ne_of_lt (Nat.lt_of_lt_of_eq (blk_lt B2.out) e8.symm)); have N82 := Lib.hid N28.out.symm; replace B2 := Lib.hid (blk_below B2.out b8); have N38 := Lib.hid (Nat.ne_of_lt (Nat.lt_of_lt_of_eq (blk_lt B3.out) e8.symm)); have N83 := Lib.hid N38.out.symm; replace B3 := Lib.hid (blk_below B3.out b8); have N48 := Lib.hid (Nat.ne_of_lt (Nat.lt_of_lt_of_eq (blk_lt B4.out) e8.symm)); have N84 := Lib.hid N48.out.symm; replace B4 := Lib.hid (blk_below B4.out b8); replace HB := Lib.hid (below_step HB.out b8); have B8 := Lib.hid h8; clear h8 b8 e8)
            | ((with_reducible refine gate_store (t := 177) (p := 8) rfl ?_); refine store_row_event rfl 177 (.tmp 8) (.tmp 83) rfl g8 _ rfl rfl 177 _ B8.out (by kernel_rfl) rfl (by simp [Value.oneCell', ssA]) ?_; intro v838 h_ q_; replace B2 := Lib.hid (blk_grown B2.out q_ (by intro e_; injection e_ with e_; exact N28.out e_)); replace B3 := Lib.hid (blk_grown B3.out q_ (by intro e_; injection e_ with e_; exact N38.out e_)); replace B4 := Lib.hid (blk_grown B4.out q_ (by intro e_; injection e_ with e_; exact N48.out e_)); replace HB := Lib.hid (below_of_grown HB.out q_ L8.out HB.out.size); replace B8 := Lib.hid h_; clear h_ q_)
            | ((with_reducible refine gate_dst (N := 88) rfl ?_); refine wpList_load_row rfl 177 (.tmp 8) rfl g8 rfl 177 _ (0, 0) _ B8.out Try.underlying177 rfl (by kernel_rfl) ?_)
            | ((with_reducible refine gate_store (t := 177) (p := 2) rfl ?_); refine store_row_event rfl 177 (.tmp 2) (.tmp 88) rfl g2 _ rfl rfl 177 _ B2.out (by kernel_rfl) rfl (by simp [Value.oneCell', ssA]) ?_; intro v882 h_ q_; replace B3 := Lib.hid (blk_grown B3.out q_ (by intro e_; injection e_ with e_; exact N32.out e_)); replace B4 := Lib.hid (blk_grown B4.out q_ (by intro e_; injection e_ with e_; exact N42.out e_)); replace HB := Lib.hid (below_of_grown HB.out q_ L2.out HB.out.size); replace B2 := Lib.hid h_; clear h_ q_)
            | ((with_reducible refine gate_dst (N := 89) rfl ?_); refine wpList_load_row rfl 177 (.tmp 2) rfl g2 rfl 177 _ (0, 0) _ B2.out Try.underlying177 rfl (by kernel_rfl) ?_)
            | ((with_reducible refine gate_dst (N := 92) rfl ?_); refine wpList_load_cell rfl 9 (.tmp 91) rfl g3 6 rfl _ _ B3.out _ rfl _ Try.underlying9 rfl ?_)
            | ((with_reducible refine gate_dst (N := 95) rfl ?_); refine wpList_load_cell rfl 3 (.tmp 94) rfl g3 11 rfl _ _ B3.out _ rfl _ Try.underlying3 rfl ?_)
            | (go_at_call 129; (with_reducible refine (puts_any _ _ _ _ _ _ _ _).mono ?_); rintro e_ W_ ⟨rfl, hb⟩; replace B2 := Lib.hid (blk_below B2.out hb); replace B3 := Lib.hid (blk_below B3.out hb); replace B4 := Lib.hid (blk_below B4.out hb); replace HB := Lib.hid (below_step HB.out hb); clear hb)
            | ((with_reducible refine gate_store (t := 177) (p := 4) rfl ?_); refine store_row_event rfl 177 (.tmp 4) (.tmp 97) rfl g4 _ rfl rfl 177 _ B4.out (by kernel_rfl) rfl (by simp [Value.oneCell', ssA]) ?_; intro v974 h_ q_; replace B2 := Lib.hid (blk_grown B2.out q_ (by intro e_; injection e_ with e_; exact N24.out e_)); replace B3 := Lib.hid (blk_grown B3.out q_ (by intro e_; injection e_ with e_; exact N34.out e_)); replace HB := Lib.hid (below_of_grown HB.out q_ L4.out HB.out.size); replace B4 := Lib.hid h_; clear h_ q_)
            | (fail))
          exact bodyPost_ret (results_ct rfl _ _ g4 177 _ (0, 0) _ rfl B4.out Try.underlying177 rfl (by kernel_rfl)) rfl ⟨by rw [HF.out]; rfl, HB.out⟩
      · have kb3 : (x.f4.f0 == 3) = false := by simpa using k3
        have HF := Lib.hid (show aftF ⟨k, t, v, lo, fr⟩ x = putF ⟨k, t, v, lo, fr⟩ x.f4.f2 x.f7.f1 by unfold aftF; rw [if_neg (by rw [hr]; decide), if_neg (fun h => by rcases h with h | h <;> (rw [ha] at h; exact absurd h.1 (by decide))), if_neg (fun h => by rw [ha] at h; exact absurd h.1 (by decide)), if_neg k2, if_neg k3])
        clear k2 k3 ha
        go_enter Try.func93, Try.ntmps93
        go_upto_region 7 with (first
          | ((with_reducible refine gate_dst (N := 2) rfl ?_); refine box_event rfl (N := 2) rfl (cs := #[.string k, .bool t, .string v, .int .i64 lo, .int .i64 fr]) (t := 177) (by first | (go_simp; done) | (go_simp; rfl)) ?_; intro g2 e2 w2 h2 b2; have L2 := Lib.hid (Nat.le_trans HB.out.size (Nat.le_of_eq e2.symm)); replace HB := Lib.hid (below_step HB.out b2); have B2 := Lib.hid h2; clear h2 b2 e2)
          | ((with_reducible refine gate_dst (N := 3) rfl ?_); refine box_event rfl (N := 3) rfl (cs := #[.int .i64 x.f0, .int .i64 x.f1, .bool x.f2, .string x.f3, .int .i64 x.f4.f0, .string x.f4.f1, .string x.f4.f2, .int .i64 x.f4.f3, .int .i64 x.f5, .int .i64 x.f6, .int .i64 x.f7.f0, .int .i64 x.f7.f1, .string x.f8.f0, .string x.f8.f1, .int .i64 x.f8.f2, .bool x.f9]) (t := 39) (by first | (go_simp; done) | (go_simp; rfl)) ?_; intro g3 e3 w3 h3 b3; have L3 := Lib.hid (Nat.le_trans HB.out.size (Nat.le_of_eq e3.symm)); have N23 := Lib.hid (Nat.ne_of_lt (Nat.lt_of_lt_of_eq (blk_lt B2.out) e3.symm)); have N32 := Lib.hid N23.out.symm; replace B2 := Lib.hid (blk_below B2.out b3); replace HB := Lib.hid (below_step HB.out b3); have B3 := Lib.hid h3; clear h3 b3 e3)
          | ((with_reducible refine gate_dst (N := 4) rfl ?_); refine box_event rfl (N := 4) rfl (cs := #[.string ⟨#[]⟩, .bool false, .string ⟨#[]⟩, .int .i64 0, .int .i64 0]) (t := 177) (by first | (go_simp; done) | (go_simp; rfl)) ?_; intro g4 e4 w4 h4 b4; have L4 := Lib.hid (Nat.le_trans HB.out.size (Nat.le_of_eq e4.symm)); have N24 := Lib.hid (Nat.ne_of_lt (Nat.lt_of_lt_of_eq (blk_lt B2.out) e4.symm)); have N42 := Lib.hid N24.out.symm; replace B2 := Lib.hid (blk_below B2.out b4); have N34 := Lib.hid (Nat.ne_of_lt (Nat.lt_of_lt_of_eq (blk_lt B3.out) e4.symm)); have N43 := Lib.hid N34.out.symm; replace B3 := Lib.hid (blk_below B3.out b4); replace HB := Lib.hid (below_step HB.out b4); have B4 := Lib.hid h4; clear h4 b4 e4)
          | ((with_reducible refine gate_dst (N := 11) rfl ?_); refine wpList_load_cell rfl 4 (.tmp 10) rfl g3 2 rfl _ _ B3.out (.bool false) (by rw [← hr]; rfl) _ Try.underlying4 rfl ?_)
          | (fail))
        have z4 := (blk_cell B3.out 4).trans (show _ = some (Value.int .i64 x.f4.f0) from rfl)
        have z10 := (blk_cell B3.out 10).trans (show _ = some (Value.int .i64 x.f7.f0) from rfl)
        go_quiet (fail)
        have HB := Lib.hid (pw_below_drewN HB.out nq)
        have B2 := Lib.hid (blk_drewN B2.out nq)
        have B3 := Lib.hid (blk_drewN B3.out nq)
        have B4 := Lib.hid (blk_drewN B4.out nq)
        clear z4 z10
        go_wp2_with (first
          | ((with_reducible refine gate_dst (N := 44) rfl ?_); refine wpList_load_row rfl 39 (.tmp 3) rfl g3 rfl 39 _ (0, 0) _ B3.out Try.underlying39 rfl (by kernel_rfl) ?_)
          | (go_at_call 44; (with_reducible refine (HA.out _).mono ?_); rintro e_ W_ ⟨rfl, hb⟩; replace B2 := Lib.hid (blk_below B2.out hb); replace B3 := Lib.hid (blk_below B3.out hb); replace B4 := Lib.hid (blk_below B4.out hb); replace HB := Lib.hid (below_step HB.out hb); clear hb)
          | ((with_reducible refine gate_dst (N := 89) rfl ?_); refine wpList_load_row rfl 177 (.tmp 2) rfl g2 rfl 177 _ (0, 0) _ B2.out Try.underlying177 rfl (by kernel_rfl) ?_)
          | ((with_reducible refine gate_dst (N := 92) rfl ?_); refine wpList_load_cell rfl 9 (.tmp 91) rfl g3 6 rfl _ _ B3.out _ rfl _ Try.underlying9 rfl ?_)
          | ((with_reducible refine gate_dst (N := 95) rfl ?_); refine wpList_load_cell rfl 3 (.tmp 94) rfl g3 11 rfl _ _ B3.out _ rfl _ Try.underlying3 rfl ?_)
          | (go_at_call 129; (with_reducible refine (puts_any _ _ _ _ _ _ _ _).mono ?_); rintro e_ W_ ⟨rfl, hb⟩; replace B2 := Lib.hid (blk_below B2.out hb); replace B3 := Lib.hid (blk_below B3.out hb); replace B4 := Lib.hid (blk_below B4.out hb); replace HB := Lib.hid (below_step HB.out hb); clear hb)
          | ((with_reducible refine gate_store (t := 177) (p := 4) rfl ?_); refine store_row_event rfl 177 (.tmp 4) (.tmp 97) rfl g4 _ rfl rfl 177 _ B4.out (by kernel_rfl) rfl (by simp [Value.oneCell', ssA]) ?_; intro v974 h_ q_; replace B2 := Lib.hid (blk_grown B2.out q_ (by intro e_; injection e_ with e_; exact N24.out e_)); replace B3 := Lib.hid (blk_grown B3.out q_ (by intro e_; injection e_ with e_; exact N34.out e_)); replace HB := Lib.hid (below_of_grown HB.out q_ L4.out HB.out.size); replace B4 := Lib.hid h_; clear h_ q_)
          | (fail))
        exact bodyPost_ret (results_ct rfl _ _ g4 177 _ (0, 0) _ rfl B4.out Try.underlying177 rfl (by kernel_rfl)) rfl ⟨by rw [HF.out]; rfl, HB.out⟩
  | true =>
    have HA := Lib.hid (ranswered_u x true hr ha)
    by_cases c2 : x.f7.f0 = 2
    · have cb2 : (x.f7.f0 == 2) = true := by rw [c2]; rfl
      have HF := Lib.hid (show aftF ⟨k, t, v, lo, fr⟩ x = (⟨k, t, v, lo, fr⟩, !t) by unfold aftF; rw [if_neg (by rw [hr]; decide), if_pos (.inl ⟨ha, c2⟩)])
      clear c2 ha
      go_enter Try.func93, Try.ntmps93
      go_upto_region 7 with (first
        | ((with_reducible refine gate_dst (N := 2) rfl ?_); refine box_event rfl (N := 2) rfl (cs := #[.string k, .bool t, .string v, .int .i64 lo, .int .i64 fr]) (t := 177) (by first | (go_simp; done) | (go_simp; rfl)) ?_; intro g2 e2 w2 h2 b2; have L2 := Lib.hid (Nat.le_trans HB.out.size (Nat.le_of_eq e2.symm)); replace HB := Lib.hid (below_step HB.out b2); have B2 := Lib.hid h2; clear h2 b2 e2)
        | ((with_reducible refine gate_dst (N := 3) rfl ?_); refine box_event rfl (N := 3) rfl (cs := #[.int .i64 x.f0, .int .i64 x.f1, .bool x.f2, .string x.f3, .int .i64 x.f4.f0, .string x.f4.f1, .string x.f4.f2, .int .i64 x.f4.f3, .int .i64 x.f5, .int .i64 x.f6, .int .i64 x.f7.f0, .int .i64 x.f7.f1, .string x.f8.f0, .string x.f8.f1, .int .i64 x.f8.f2, .bool x.f9]) (t := 39) (by first | (go_simp; done) | (go_simp; rfl)) ?_; intro g3 e3 w3 h3 b3; have L3 := Lib.hid (Nat.le_trans HB.out.size (Nat.le_of_eq e3.symm)); have N23 := Lib.hid (Nat.ne_of_lt (Nat.lt_of_lt_of_eq (blk_lt B2.out) e3.symm)); have N32 := Lib.hid N23.out.symm; replace B2 := Lib.hid (blk_below B2.out b3); replace HB := Lib.hid (below_step HB.out b3); have B3 := Lib.hid h3; clear h3 b3 e3)
        | ((with_reducible refine gate_dst (N := 4) rfl ?_); refine box_event rfl (N := 4) rfl (cs := #[.string ⟨#[]⟩, .bool false, .string ⟨#[]⟩, .int .i64 0, .int .i64 0]) (t := 177) (by first | (go_simp; done) | (go_simp; rfl)) ?_; intro g4 e4 w4 h4 b4; have L4 := Lib.hid (Nat.le_trans HB.out.size (Nat.le_of_eq e4.symm)); have N24 := Lib.hid (Nat.ne_of_lt (Nat.lt_of_lt_of_eq (blk_lt B2.out) e4.symm)); have N42 := Lib.hid N24.out.symm; replace B2 := Lib.hid (blk_below B2.out b4); have N34 := Lib.hid (Nat.ne_of_lt (Nat.lt_of_lt_of_eq (blk_lt B3.out) e4.symm)); have N43 := Lib.hid N34.out.symm; replace B3 := Lib.hid (blk_below B3.out b4); replace HB := Lib.hid (below_step HB.out b4); have B4 := Lib.hid h4; clear h4 b4 e4)
        | ((with_reducible refine gate_dst (N := 11) rfl ?_); refine wpList_load_cell rfl 4 (.tmp 10) rfl g3 2 rfl _ _ B3.out (.bool false) (by rw [← hr]; rfl) _ Try.underlying4 rfl ?_)
        | (fail))
      have z4 := (blk_cell B3.out 4).trans (show _ = some (Value.int .i64 x.f4.f0) from rfl)
      have z10 := (blk_cell B3.out 10).trans (show _ = some (Value.int .i64 x.f7.f0) from rfl)
      go_quiet (fail)
      have HB := Lib.hid (pw_below_drewN HB.out nq)
      have B2 := Lib.hid (blk_drewN B2.out nq)
      have B3 := Lib.hid (blk_drewN B3.out nq)
      have B4 := Lib.hid (blk_drewN B4.out nq)
      clear z4 z10
      go_upto_region 11 with (first
        | ((with_reducible refine gate_dst (N := 44) rfl ?_); refine wpList_load_row rfl 39 (.tmp 3) rfl g3 rfl 39 _ (0, 0) _ B3.out Try.underlying39 rfl (by kernel_rfl) ?_)
        | (go_at_call 44; (with_reducible refine (HA.out _).mono ?_); rintro e_ W_ ⟨rfl, hb⟩; replace B2 := Lib.hid (blk_below B2.out hb); replace B3 := Lib.hid (blk_below B3.out hb); replace B4 := Lib.hid (blk_below B4.out hb); replace HB := Lib.hid (below_step HB.out hb); clear hb)
        | (fail))
      refine start_ (n := 6) (S := fun w1 => w1.heap[g2]? = some (Obj.cells #[.string k, .bool t, .string v, .int .i64 lo, .int .i64 fr] 177 (0, 0))) (ds := []) (ar 6 0) (by kernel_rfl) rfl rfl (blk_below B2.out (below_drew1 (Below.refl _ _))) (fun hHeld => ?_); refine with_tabW aft.tab11 aft.bits11 (fun HT_ HW_ => ?_)
      replace B2 := Lib.hid (blk_below B2.out (below_drew1 (Below.refl _ _)))
      replace B4 := Lib.hid (blk_below B4.out (below_drew1 (Below.refl _ _)))
      replace HB := Lib.hid (below_drew1 HB.out)
      generalize W_.drew = wz at B2 B4 HB hHeld ⊢
      refine take_ (i := 0) (N := (some 53)) (v := .agg #[.string k, .bool t, .string v, .int .i64 lo, .int .i64 fr]) (a' := ?_) (ar 6 1) rfl rfl (take_ofW HT_.out HW_.out (by kernel_rfl)) (fun _ _ _ h => h) (Or.inl ⟨by rfl, fun w1 hs1 => exec_load_p 177 (.tmp 2) rfl ⟨g2, 0, none⟩ rfl [.string k, .bool t, .string v, .int .i64 lo, .int .i64 fr] _ (mid_cells hs1 rfl) Try.underlying177 rfl (by kernel_rfl)⟩) hHeld ?_ ?_; rotate_left; (· simp only [Act.put, List.setIfInBounds_toArray, List.set_cons_zero, List.set_cons_succ, i64_w, i32_w]; rfl)
      refine pY 1 (some 54) (ar 6 2) HT_ (h := ?_)
      refine take_ (i := 2) (N := (some 55)) (v := ?_) (a' := ?_) (ar 6 3) rfl rfl (take_ofW HT_.out HW_.out (by kernel_rfl)) (fun _ _ _ h => h) (Or.inl ⟨by rfl, ?_⟩) hHeld ?_ ?_; rotate_left; (· rintro w1 hs1; have kc : w1.cell? ⟨g2, 1, none⟩ = some (.bool t) := (blk_cell hs1 1).trans rfl; go_simp; with_reducible rfl); rotate_left; (· simp only [Act.put, List.setIfInBounds_toArray, List.set_cons_zero, List.set_cons_succ, i64_w, i32_w]; rfl)
      refine pY 3 (some 56) (ar 6 4) HT_ (h := ?_)
      refine one_ (i := 4) (N := none) (ar 6 5) rfl rfl (one_of HT_.out (by kernel_rfl)) (by decide) (fun K hK => ?_); refine wp_row 177 (.tmp 4) (.tmp 53) rfl g4 _ rfl rfl 177 _ B4.out (by kernel_rfl) rfl (by simp [Value.oneCell']) ?_; intro vq h_ q_; replace B4 := Lib.hid h_; replace HB := Lib.hid (below_of_grown HB.out q_ L4.out HB.out.size); replace B2 := Lib.hid (blk_grown B2.out q_ (by intro e_; injection e_ with e_; exact N24.out e_)); clear h_ q_; refine hK.out _ _ B2.out (fun hHeld => ?_); clear hK K
      refine pY 5 (some 5) (ar 6 6) HT_ (h := ?_)
      refine done_ (done_of HT_.out (by kernel_rfl)) ?_
      go_wp2
      exact bodyPost_ret (results_ct rfl _ _ g4 177 _ (0, 0) _ rfl B4.out Try.underlying177 rfl (by kernel_rfl)) rfl ⟨by rw [HF.out]; rfl, HB.out⟩
    · have cb2 : (x.f7.f0 == 2) = false := by simpa using c2
      by_cases c4 : x.f7.f0 = 4
      · have cb4 : (x.f7.f0 == 4) = true := by rw [c4]; rfl
        have HF := Lib.hid (show aftF ⟨k, t, v, lo, fr⟩ x = (⟨k, t, v, lo, fr⟩, !t) by unfold aftF; rw [if_neg (by rw [hr]; decide), if_pos (.inr ⟨ha, c4⟩)])
        clear c2 c4 ha
        go_enter Try.func93, Try.ntmps93
        go_upto_region 7 with (first
          | ((with_reducible refine gate_dst (N := 2) rfl ?_); refine box_event rfl (N := 2) rfl (cs := #[.string k, .bool t, .string v, .int .i64 lo, .int .i64 fr]) (t := 177) (by first | (go_simp; done) | (go_simp; rfl)) ?_; intro g2 e2 w2 h2 b2; have L2 := Lib.hid (Nat.le_trans HB.out.size (Nat.le_of_eq e2.symm)); replace HB := Lib.hid (below_step HB.out b2); have B2 := Lib.hid h2; clear h2 b2 e2)
          | ((with_reducible refine gate_dst (N := 3) rfl ?_); refine box_event rfl (N := 3) rfl (cs := #[.int .i64 x.f0, .int .i64 x.f1, .bool x.f2, .string x.f3, .int .i64 x.f4.f0, .string x.f4.f1, .string x.f4.f2, .int .i64 x.f4.f3, .int .i64 x.f5, .int .i64 x.f6, .int .i64 x.f7.f0, .int .i64 x.f7.f1, .string x.f8.f0, .string x.f8.f1, .int .i64 x.f8.f2, .bool x.f9]) (t := 39) (by first | (go_simp; done) | (go_simp; rfl)) ?_; intro g3 e3 w3 h3 b3; have L3 := Lib.hid (Nat.le_trans HB.out.size (Nat.le_of_eq e3.symm)); have N23 := Lib.hid (Nat.ne_of_lt (Nat.lt_of_lt_of_eq (blk_lt B2.out) e3.symm)); have N32 := Lib.hid N23.out.symm; replace B2 := Lib.hid (blk_below B2.out b3); replace HB := Lib.hid (below_step HB.out b3); have B3 := Lib.hid h3; clear h3 b3 e3)
          | ((with_reducible refine gate_dst (N := 4) rfl ?_); refine box_event rfl (N := 4) rfl (cs := #[.string ⟨#[]⟩, .bool false, .string ⟨#[]⟩, .int .i64 0, .int .i64 0]) (t := 177) (by first | (go_simp; done) | (go_simp; rfl)) ?_; intro g4 e4 w4 h4 b4; have L4 := Lib.hid (Nat.le_trans HB.out.size (Nat.le_of_eq e4.symm)); have N24 := Lib.hid (Nat.ne_of_lt (Nat.lt_of_lt_of_eq (blk_lt B2.out) e4.symm)); have N42 := Lib.hid N24.out.symm; replace B2 := Lib.hid (blk_below B2.out b4); have N34 := Lib.hid (Nat.ne_of_lt (Nat.lt_of_lt_of_eq (blk_lt B3.out) e4.symm)); have N43 := Lib.hid N34.out.symm; replace B3 := Lib.hid (blk_below B3.out b4); replace HB := Lib.hid (below_step HB.out b4); have B4 := Lib.hid h4; clear h4 b4 e4)
          | ((with_reducible refine gate_dst (N := 11) rfl ?_); refine wpList_load_cell rfl 4 (.tmp 10) rfl g3 2 rfl _ _ B3.out (.bool false) (by rw [← hr]; rfl) _ Try.underlying4 rfl ?_)
          | (fail))
        have z4 := (blk_cell B3.out 4).trans (show _ = some (Value.int .i64 x.f4.f0) from rfl)
        have z10 := (blk_cell B3.out 10).trans (show _ = some (Value.int .i64 x.f7.f0) from rfl)
        go_quiet (fail)
        have HB := Lib.hid (pw_below_drewN HB.out nq)
        have B2 := Lib.hid (blk_drewN B2.out nq)
        have B3 := Lib.hid (blk_drewN B3.out nq)
        have B4 := Lib.hid (blk_drewN B4.out nq)
        clear z4 z10
        go_upto_region 11 with (first
          | ((with_reducible refine gate_dst (N := 44) rfl ?_); refine wpList_load_row rfl 39 (.tmp 3) rfl g3 rfl 39 _ (0, 0) _ B3.out Try.underlying39 rfl (by kernel_rfl) ?_)
          | (go_at_call 44; (with_reducible refine (HA.out _).mono ?_); rintro e_ W_ ⟨rfl, hb⟩; replace B2 := Lib.hid (blk_below B2.out hb); replace B3 := Lib.hid (blk_below B3.out hb); replace B4 := Lib.hid (blk_below B4.out hb); replace HB := Lib.hid (below_step HB.out hb); clear hb)
          | (fail))
        refine start_ (n := 6) (S := fun w1 => w1.heap[g2]? = some (Obj.cells #[.string k, .bool t, .string v, .int .i64 lo, .int .i64 fr] 177 (0, 0))) (ds := []) (ar 6 0) (by kernel_rfl) rfl rfl (blk_below B2.out (below_drew1 (Below.refl _ _))) (fun hHeld => ?_); refine with_tabW aft.tab11 aft.bits11 (fun HT_ HW_ => ?_)
        replace B2 := Lib.hid (blk_below B2.out (below_drew1 (Below.refl _ _)))
        replace B4 := Lib.hid (blk_below B4.out (below_drew1 (Below.refl _ _)))
        replace HB := Lib.hid (below_drew1 HB.out)
        generalize W_.drew = wz at B2 B4 HB hHeld ⊢
        refine take_ (i := 0) (N := (some 53)) (v := .agg #[.string k, .bool t, .string v, .int .i64 lo, .int .i64 fr]) (a' := ?_) (ar 6 1) rfl rfl (take_ofW HT_.out HW_.out (by kernel_rfl)) (fun _ _ _ h => h) (Or.inl ⟨by rfl, fun w1 hs1 => exec_load_p 177 (.tmp 2) rfl ⟨g2, 0, none⟩ rfl [.string k, .bool t, .string v, .int .i64 lo, .int .i64 fr] _ (mid_cells hs1 rfl) Try.underlying177 rfl (by kernel_rfl)⟩) hHeld ?_ ?_; rotate_left; (· simp only [Act.put, List.setIfInBounds_toArray, List.set_cons_zero, List.set_cons_succ, i64_w, i32_w]; rfl)
        refine pY 1 (some 54) (ar 6 2) HT_ (h := ?_)
        refine take_ (i := 2) (N := (some 55)) (v := ?_) (a' := ?_) (ar 6 3) rfl rfl (take_ofW HT_.out HW_.out (by kernel_rfl)) (fun _ _ _ h => h) (Or.inl ⟨by rfl, ?_⟩) hHeld ?_ ?_; rotate_left; (· rintro w1 hs1; have kc : w1.cell? ⟨g2, 1, none⟩ = some (.bool t) := (blk_cell hs1 1).trans rfl; go_simp; with_reducible rfl); rotate_left; (· simp only [Act.put, List.setIfInBounds_toArray, List.set_cons_zero, List.set_cons_succ, i64_w, i32_w]; rfl)
        refine pY 3 (some 56) (ar 6 4) HT_ (h := ?_)
        refine one_ (i := 4) (N := none) (ar 6 5) rfl rfl (one_of HT_.out (by kernel_rfl)) (by decide) (fun K hK => ?_); refine wp_row 177 (.tmp 4) (.tmp 53) rfl g4 _ rfl rfl 177 _ B4.out (by kernel_rfl) rfl (by simp [Value.oneCell']) ?_; intro vq h_ q_; replace B4 := Lib.hid h_; replace HB := Lib.hid (below_of_grown HB.out q_ L4.out HB.out.size); replace B2 := Lib.hid (blk_grown B2.out q_ (by intro e_; injection e_ with e_; exact N24.out e_)); clear h_ q_; refine hK.out _ _ B2.out (fun hHeld => ?_); clear hK K
        refine pY 5 (some 5) (ar 6 6) HT_ (h := ?_)
        refine done_ (done_of HT_.out (by kernel_rfl)) ?_
        go_wp2
        exact bodyPost_ret (results_ct rfl _ _ g4 177 _ (0, 0) _ rfl B4.out Try.underlying177 rfl (by kernel_rfl)) rfl ⟨by rw [HF.out]; rfl, HB.out⟩
      · have cb4 : (x.f7.f0 == 4) = false := by simpa using c4
        have nn : ¬ ((ansB x = true ∧ x.f7.f0 = 2) ∨ (ansB x = true ∧ x.f7.f0 = 4)) := fun h => by rcases h with h | h; exact c2 h.2; exact c4 h.2
        by_cases c3 : x.f7.f0 = 3
        · have cb3 : (x.f7.f0 == 3) = true := by rw [c3]; rfl
          have HF := Lib.hid (show aftF ⟨k, t, v, lo, fr⟩ x = verF ⟨k, t, v, lo, fr⟩ x.f7.f1 by unfold aftF; rw [if_neg (by rw [hr]; decide), if_neg nn, if_pos ⟨ha, c3⟩])
          clear c2 c3 c4 ha nn
          go_enter Try.func93, Try.ntmps93
          go_upto_region 7 with (first
            | ((with_reducible refine gate_dst (N := 2) rfl ?_); refine box_event rfl (N := 2) rfl (cs := #[.string k, .bool t, .string v, .int .i64 lo, .int .i64 fr]) (t := 177) (by first | (go_simp; done) | (go_simp; rfl)) ?_; intro g2 e2 w2 h2 b2; have L2 := Lib.hid (Nat.le_trans HB.out.size (Nat.le_of_eq e2.symm)); replace HB := Lib.hid (below_step HB.out b2); have B2 := Lib.hid h2; clear h2 b2 e2)
            | ((with_reducible refine gate_dst (N := 3) rfl ?_); refine box_event rfl (N := 3) rfl (cs := #[.int .i64 x.f0, .int .i64 x.f1, .bool x.f2, .string x.f3, .int .i64 x.f4.f0, .string x.f4.f1, .string x.f4.f2, .int .i64 x.f4.f3, .int .i64 x.f5, .int .i64 x.f6, .int .i64 x.f7.f0, .int .i64 x.f7.f1, .string x.f8.f0, .string x.f8.f1, .int .i64 x.f8.f2, .bool x.f9]) (t := 39) (by first | (go_simp; done) | (go_simp; rfl)) ?_; intro g3 e3 w3 h3 b3; have L3 := Lib.hid (Nat.le_trans HB.out.size (Nat.le_of_eq e3.symm)); have N23 := Lib.hid (Nat.ne_of_lt (Nat.lt_of_lt_of_eq (blk_lt B2.out) e3.symm)); have N32 := Lib.hid N23.out.symm; replace B2 := Lib.hid (blk_below B2.out b3); replace HB := Lib.hid (below_step HB.out b3); have B3 := Lib.hid h3; clear h3 b3 e3)
            | ((with_reducible refine gate_dst (N := 4) rfl ?_); refine box_event rfl (N := 4) rfl (cs := #[.string ⟨#[]⟩, .bool false, .string ⟨#[]⟩, .int .i64 0, .int .i64 0]) (t := 177) (by first | (go_simp; done) | (go_simp; rfl)) ?_; intro g4 e4 w4 h4 b4; have L4 := Lib.hid (Nat.le_trans HB.out.size (Nat.le_of_eq e4.symm)); have N24 := Lib.hid (Nat.ne_of_lt (Nat.lt_of_lt_of_eq (blk_lt B2.out) e4.symm)); have N42 := Lib.hid N24.out.symm; replace B2 := Lib.hid (blk_below B2.out b4); have N34 := Lib.hid (Nat.ne_of_lt (Nat.lt_of_lt_of_eq (blk_lt B3.out) e4.symm)); have N43 := Lib.hid N34.out.symm; replace B3 := Lib.hid (blk_below B3.out b4); replace HB := Lib.hid (below_step HB.out b4); have B4 := Lib.hid h4; clear h4 b4 e4)
            | ((with_reducible refine gate_dst (N := 11) rfl ?_); refine wpList_load_cell rfl 4 (.tmp 10) rfl g3 2 rfl _ _ B3.out (.bool false) (by rw [← hr]; rfl) _ Try.underlying4 rfl ?_)
            | (fail))
          have z4 := (blk_cell B3.out 4).trans (show _ = some (Value.int .i64 x.f4.f0) from rfl)
          have z10 := (blk_cell B3.out 10).trans (show _ = some (Value.int .i64 x.f7.f0) from rfl)
          go_quiet (fail)
          have HB := Lib.hid (pw_below_drewN HB.out nq)
          have B2 := Lib.hid (blk_drewN B2.out nq)
          have B3 := Lib.hid (blk_drewN B3.out nq)
          have B4 := Lib.hid (blk_drewN B4.out nq)
          clear z4 z10
          go_wp2_with (first
            | ((with_reducible refine gate_dst (N := 44) rfl ?_); refine wpList_load_row rfl 39 (.tmp 3) rfl g3 rfl 39 _ (0, 0) _ B3.out Try.underlying39 rfl (by kernel_rfl) ?_)
            | (go_at_call 44; (with_reducible refine (HA.out _).mono ?_); rintro e_ W_ ⟨rfl, hb⟩; replace B2 := Lib.hid (blk_below B2.out hb); replace B3 := Lib.hid (blk_below B3.out hb); replace B4 := Lib.hid (blk_below B4.out hb); replace HB := Lib.hid (below_step HB.out hb); clear hb)
            | ((with_reducible refine gate_dst (N := 59) rfl ?_); refine wpList_load_row rfl 177 (.tmp 2) rfl g2 rfl 177 _ (0, 0) _ B2.out Try.underlying177 rfl (by kernel_rfl) ?_)
            | ((with_reducible refine gate_dst (N := 62) rfl ?_); refine wpList_load_cell rfl 3 (.tmp 61) rfl g3 11 rfl _ _ B3.out _ rfl _ Try.underlying3 rfl ?_)
            | (go_at_call 127; (with_reducible refine (version_any _ _ _ _ _ _ _).mono ?_); rintro e_ W_ ⟨rfl, hb⟩; replace B2 := Lib.hid (blk_below B2.out hb); replace B3 := Lib.hid (blk_below B3.out hb); replace B4 := Lib.hid (blk_below B4.out hb); replace HB := Lib.hid (below_step HB.out hb); clear hb)
            | ((with_reducible refine gate_store (t := 177) (p := 4) rfl ?_); refine store_row_event rfl 177 (.tmp 4) (.tmp 64) rfl g4 _ rfl rfl 177 _ B4.out (by kernel_rfl) rfl (by simp [Value.oneCell', ssA]) ?_; intro v644 h_ q_; replace B2 := Lib.hid (blk_grown B2.out q_ (by intro e_; injection e_ with e_; exact N24.out e_)); replace B3 := Lib.hid (blk_grown B3.out q_ (by intro e_; injection e_ with e_; exact N34.out e_)); replace HB := Lib.hid (below_of_grown HB.out q_ L4.out HB.out.size); replace B4 := Lib.hid h_; clear h_ q_)
            | (fail))
          exact bodyPost_ret (results_ct rfl _ _ g4 177 _ (0, 0) _ rfl B4.out Try.underlying177 rfl (by kernel_rfl)) rfl ⟨by rw [HF.out]; rfl, HB.out⟩
        · have cb3 : (x.f7.f0 == 3) = false := by simpa using c3
          have n3 : ¬ (ansB x = true ∧ x.f7.f0 = 3) := fun h => c3 h.2
          by_cases k2 : x.f4.f0 = 2
          · have kb2 : (x.f4.f0 == 2) = true := by rw [k2]; rfl
            have HF := Lib.hid (show aftF ⟨k, t, v, lo, fr⟩ x = goeF ⟨k, t, v, lo, fr⟩ x.f7.f1 by unfold aftF; rw [if_neg (by rw [hr]; decide), if_neg nn, if_neg n3, if_pos k2])
            clear k2 c2 c3 c4 ha nn n3
            go_enter Try.func93, Try.ntmps93
            go_upto_region 7 with (first
              | ((with_reducible refine gate_dst (N := 2) rfl ?_); refine box_event rfl (N := 2) rfl (cs := #[.string k, .bool t, .string v, .int .i64 lo, .int .i64 fr]) (t := 177) (by first | (go_simp; done) | (go_simp; rfl)) ?_; intro g2 e2 w2 h2 b2; have L2 := Lib.hid (Nat.le_trans HB.out.size (Nat.le_of_eq e2.symm)); replace HB := Lib.hid (below_step HB.out b2); have B2 := Lib.hid h2; clear h2 b2 e2)
              | ((with_reducible refine gate_dst (N := 3) rfl ?_); refine box_event rfl (N := 3) rfl (cs := #[.int .i64 x.f0, .int .i64 x.f1, .bool x.f2, .string x.f3, .int .i64 x.f4.f0, .string x.f4.f1, .string x.f4.f2, .int .i64 x.f4.f3, .int .i64 x.f5, .int .i64 x.f6, .int .i64 x.f7.f0, .int .i64 x.f7.f1, .string x.f8.f0, .string x.f8.f1, .int .i64 x.f8.f2, .bool x.f9]) (t := 39) (by first | (go_simp; done) | (go_simp; rfl)) ?_; intro g3 e3 w3 h3 b3; have L3 := Lib.hid (Nat.le_trans HB.out.size (Nat.le_of_eq e3.symm)); have N23 := Lib.hid (Nat.ne_of_lt (Nat.lt_of_lt_of_eq (blk_lt B2.out) e3.symm)); have N32 := Lib.hid N23.out.symm; replace B2 := Lib.hid (blk_below B2.out b3); replace HB := Lib.hid (below_step HB.out b3); have B3 := Lib.hid h3; clear h3 b3 e3)
              | ((with_reducible refine gate_dst (N := 4) rfl ?_); refine box_event rfl (N := 4) rfl (cs := #[.string ⟨#[]⟩, .bool false, .string ⟨#[]⟩, .int .i64 0, .int .i64 0]) (t := 177) (by first | (go_simp; done) | (go_simp; rfl)) ?_; intro g4 e4 w4 h4 b4; have L4 := Lib.hid (Nat.le_trans HB.out.size (Nat.le_of_eq e4.symm)); have N24 := Lib.hid (Nat.ne_of_lt (Nat.lt_of_lt_of_eq (blk_lt B2.out) e4.symm)); have N42 := Lib.hid N24.out.symm; replace B2 := Lib.hid (blk_below B2.out b4); have N34 := Lib.hid (Nat.ne_of_lt (Nat.lt_of_lt_of_eq (blk_lt B3.out) e4.symm)); have N43 := Lib.hid N34.out.symm; replace B3 := Lib.hid (blk_below B3.out b4); replace HB := Lib.hid (below_step HB.out b4); have B4 := Lib.hid h4; clear h4 b4 e4)
              | ((with_reducible refine gate_dst (N := 11) rfl ?_); refine wpList_load_cell rfl 4 (.tmp 10) rfl g3 2 rfl _ _ B3.out (.bool false) (by rw [← hr]; rfl) _ Try.underlying4 rfl ?_)
              | (fail))
            have z4 := (blk_cell B3.out 4).trans (show _ = some (Value.int .i64 x.f4.f0) from rfl)
            have z10 := (blk_cell B3.out 10).trans (show _ = some (Value.int .i64 x.f7.f0) from rfl)
            go_quiet (fail)
            have HB := Lib.hid (pw_below_drewN HB.out nq)
            have B2 := Lib.hid (blk_drewN B2.out nq)
            have B3 := Lib.hid (blk_drewN B3.out nq)
            have B4 := Lib.hid (blk_drewN B4.out nq)
            clear z4 z10
            go_wp2_with (first
              | ((with_reducible refine gate_dst (N := 44) rfl ?_); refine wpList_load_row rfl 39 (.tmp 3) rfl g3 rfl 39 _ (0, 0) _ B3.out Try.underlying39 rfl (by kernel_rfl) ?_)
              | (go_at_call 44; (with_reducible refine (HA.out _).mono ?_); rintro e_ W_ ⟨rfl, hb⟩; replace B2 := Lib.hid (blk_below B2.out hb); replace B3 := Lib.hid (blk_below B3.out hb); replace B4 := Lib.hid (blk_below B4.out hb); replace HB := Lib.hid (below_step HB.out hb); clear hb)
              | ((with_reducible refine gate_dst (N := 68) rfl ?_); refine wpList_load_row rfl 177 (.tmp 2) rfl g2 rfl 177 _ (0, 0) _ B2.out Try.underlying177 rfl (by kernel_rfl) ?_)
              | ((with_reducible refine gate_dst (N := 71) rfl ?_); refine wpList_load_cell rfl 3 (.tmp 70) rfl g3 11 rfl _ _ B3.out _ rfl _ Try.underlying3 rfl ?_)
              | (go_at_call 128; (with_reducible refine (goes_any _ _ _ _ _ _ _).mono ?_); rintro e_ W_ ⟨rfl, hb⟩; replace B2 := Lib.hid (blk_below B2.out hb); replace B3 := Lib.hid (blk_below B3.out hb); replace B4 := Lib.hid (blk_below B4.out hb); replace HB := Lib.hid (below_step HB.out hb); clear hb)
              | ((with_reducible refine gate_store (t := 177) (p := 4) rfl ?_); refine store_row_event rfl 177 (.tmp 4) (.tmp 73) rfl g4 _ rfl rfl 177 _ B4.out (by kernel_rfl) rfl (by simp [Value.oneCell', ssA]) ?_; intro v734 h_ q_; replace B2 := Lib.hid (blk_grown B2.out q_ (by intro e_; injection e_ with e_; exact N24.out e_)); replace B3 := Lib.hid (blk_grown B3.out q_ (by intro e_; injection e_ with e_; exact N34.out e_)); replace HB := Lib.hid (below_of_grown HB.out q_ L4.out HB.out.size); replace B4 := Lib.hid h_; clear h_ q_)
              | (fail))
            exact bodyPost_ret (results_ct rfl _ _ g4 177 _ (0, 0) _ rfl B4.out Try.underlying177 rfl (by kernel_rfl)) rfl ⟨by rw [HF.out]; rfl, HB.out⟩
          · have kb2 : (x.f4.f0 == 2) = false := by simpa using k2
            by_cases k3 : x.f4.f0 = 3
            · have kb3 : (x.f4.f0 == 3) = true := by rw [k3]; rfl
              obtain ⟨⟨p, pb⟩, hp⟩ : ∃ q, verF ⟨k, t, v, lo, fr⟩ x.f4.f3 = q := ⟨_, rfl⟩
              have HV := Lib.hid (fun W => (show Calls Try.prog 127 #[.agg #[.string k, .bool t, .string v, .int .i64 lo, .int .i64 fr], .int .i64 x.f4.f3] W (fun e w' => e = .returned (.tuple #[ssA p, .bool pb]) ∧ Below W.heap.size W w') from by have h := version_any k t v lo fr x.f4.f3 W; rw [hp] at h; exact h))
              cases pb with
              | false =>
                have HF := Lib.hid (show aftF ⟨k, t, v, lo, fr⟩ x = (⟨k, t, v, lo, fr⟩, false) by unfold aftF; rw [if_neg (by rw [hr]; decide), if_neg nn, if_neg n3, if_neg k2, if_pos k3, hp, if_neg (fun h : false = true => by cases h)])
                clear k2 k3 hp c2 c3 c4 ha nn n3
                go_enter Try.func93, Try.ntmps93
                go_upto_region 7 with (first
                  | ((with_reducible refine gate_dst (N := 2) rfl ?_); refine box_event rfl (N := 2) rfl (cs := #[.string k, .bool t, .string v, .int .i64 lo, .int .i64 fr]) (t := 177) (by first | (go_simp; done) | (go_simp; rfl)) ?_; intro g2 e2 w2 h2 b2; have L2 := Lib.hid (Nat.le_trans HB.out.size (Nat.le_of_eq e2.symm)); replace HB := Lib.hid (below_step HB.out b2); have B2 := Lib.hid h2; clear h2 b2 e2)
                  | ((with_reducible refine gate_dst (N := 3) rfl ?_); refine box_event rfl (N := 3) rfl (cs := #[.int .i64 x.f0, .int .i64 x.f1, .bool x.f2, .string x.f3, .int .i64 x.f4.f0, .string x.f4.f1, .string x.f4.f2, .int .i64 x.f4.f3, .int .i64 x.f5, .int .i64 x.f6, .int .i64 x.f7.f0, .int .i64 x.f7.f1, .string x.f8.f0, .string x.f8.f1, .int .i64 x.f8.f2, .bool x.f9]) (t := 39) (by first | (go_simp; done) | (go_simp; rfl)) ?_; intro g3 e3 w3 h3 b3; have L3 := Lib.hid (Nat.le_trans HB.out.size (Nat.le_of_eq e3.symm)); have N23 := Lib.hid (Nat.ne_of_lt (Nat.lt_of_lt_of_eq (blk_lt B2.out) e3.symm)); have N32 := Lib.hid N23.out.symm; replace B2 := Lib.hid (blk_below B2.out b3); replace HB := Lib.hid (below_step HB.out b3); have B3 := Lib.hid h3; clear h3 b3 e3)
                  | ((with_reducible refine gate_dst (N := 4) rfl ?_); refine box_event rfl (N := 4) rfl (cs := #[.string ⟨#[]⟩, .bool false, .string ⟨#[]⟩, .int .i64 0, .int .i64 0]) (t := 177) (by first | (go_simp; done) | (go_simp; rfl)) ?_; intro g4 e4 w4 h4 b4; have L4 := Lib.hid (Nat.le_trans HB.out.size (Nat.le_of_eq e4.symm)); have N24 := Lib.hid (Nat.ne_of_lt (Nat.lt_of_lt_of_eq (blk_lt B2.out) e4.symm)); have N42 := Lib.hid N24.out.symm; replace B2 := Lib.hid (blk_below B2.out b4); have N34 := Lib.hid (Nat.ne_of_lt (Nat.lt_of_lt_of_eq (blk_lt B3.out) e4.symm)); have N43 := Lib.hid N34.out.symm; replace B3 := Lib.hid (blk_below B3.out b4); replace HB := Lib.hid (below_step HB.out b4); have B4 := Lib.hid h4; clear h4 b4 e4)
                  | ((with_reducible refine gate_dst (N := 11) rfl ?_); refine wpList_load_cell rfl 4 (.tmp 10) rfl g3 2 rfl _ _ B3.out (.bool false) (by rw [← hr]; rfl) _ Try.underlying4 rfl ?_)
                  | (fail))
                have z4 := (blk_cell B3.out 4).trans (show _ = some (Value.int .i64 x.f4.f0) from rfl)
                have z10 := (blk_cell B3.out 10).trans (show _ = some (Value.int .i64 x.f7.f0) from rfl)
                go_quiet (fail)
                have HB := Lib.hid (pw_below_drewN HB.out nq)
                have B2 := Lib.hid (blk_drewN B2.out nq)
                have B3 := Lib.hid (blk_drewN B3.out nq)
                have B4 := Lib.hid (blk_drewN B4.out nq)
                clear z4 z10
                go_wp2_with (first
                  | ((with_reducible refine gate_dst (N := 44) rfl ?_); refine wpList_load_row rfl 39 (.tmp 3) rfl g3 rfl 39 _ (0, 0) _ B3.out Try.underlying39 rfl (by kernel_rfl) ?_)
                  | (go_at_call 44; (with_reducible refine (HA.out _).mono ?_); rintro e_ W_ ⟨rfl, hb⟩; replace B2 := Lib.hid (blk_below B2.out hb); replace B3 := Lib.hid (blk_below B3.out hb); replace B4 := Lib.hid (blk_below B4.out hb); replace HB := Lib.hid (below_step HB.out hb); clear hb)
                  | ((with_reducible refine gate_dst (N := 78) rfl ?_); refine wpList_load_row rfl 177 (.tmp 2) rfl g2 rfl 177 _ (0, 0) _ B2.out Try.underlying177 rfl (by kernel_rfl) ?_)
                  | ((with_reducible refine gate_dst (N := 81) rfl ?_); refine wpList_load_cell rfl 3 (.tmp 80) rfl g3 7 rfl _ _ B3.out _ rfl _ Try.underlying3 rfl ?_)
                  | (go_at_call 127; (with_reducible refine (HV.out _).mono ?_); rintro e_ W_ ⟨rfl, hb⟩; replace B2 := Lib.hid (blk_below B2.out hb); replace B3 := Lib.hid (blk_below B3.out hb); replace B4 := Lib.hid (blk_below B4.out hb); replace HB := Lib.hid (below_step HB.out hb); clear hb)
                  | ((with_reducible refine gate_dst (N := 8) rfl ?_); refine box_event rfl (N := 8) rfl (cs := #[.string ⟨#[]⟩, .bool false, .string ⟨#[]⟩, .int .i64 0, .int .i64 0]) (t := 177) (by first | (go_simp; done) | (go_simp; rfl)) ?_; intro g8 e8 w8 h8 b8; have L8 := Lib.hid (Nat.le_trans HB.out.size (Nat.le_of_eq e8.symm)); have N28 := Lib.hid (Nat.ne_of_lt (Nat.lt_of_lt_of_eq (blk_lt B2.out) e8.symm)); have N82 := Lib.hid N28.out.symm; replace B2 := Lib.hid (blk_below B2.out b8); have N38 := Lib.hid (Nat.ne_of_lt (Nat.lt_of_lt_of_eq (blk_lt B3.out) e8.symm)); have N83 := Lib.hid N38.out.symm; replace B3 := Lib.hid (blk_below B3.out b8); have N48 := Lib.hid (Nat.ne_of_lt (Nat.lt_of_lt_of_eq (blk_lt B4.out) e8.symm)); have N84 := Lib.hid N48.out.symm; replace B4 := Lib.hid (blk_below B4.out b8); replace HB := Lib.hid (below_step HB.out b8); have B8 := Lib.hid h8; clear h8 b8 e8)
                  | ((with_reducible refine gate_store (t := 177) (p := 8) rfl ?_); refine store_row_event rfl 177 (.tmp 8) (.tmp 83) rfl g8 _ rfl rfl 177 _ B8.out (by kernel_rfl) rfl (by simp [Value.oneCell', ssA]) ?_; intro v838 h_ q_; replace B2 := Lib.hid (blk_grown B2.out q_ (by intro e_; injection e_ with e_; exact N28.out e_)); replace B3 := Lib.hid (blk_grown B3.out q_ (by intro e_; injection e_ with e_; exact N38.out e_)); replace B4 := Lib.hid (blk_grown B4.out q_ (by intro e_; injection e_ with e_; exact N48.out e_)); replace HB := Lib.hid (below_of_grown HB.out q_ L8.out HB.out.size); replace B8 := Lib.hid h_; clear h_ q_)
                  | ((with_reducible refine gate_dst (N := 87) rfl ?_); refine wpList_load_row rfl 177 (.tmp 2) rfl g2 rfl 177 _ (0, 0) _ B2.out Try.underlying177 rfl (by kernel_rfl) ?_)
                  | ((with_reducible refine gate_store (t := 177) (p := 4) rfl ?_); refine store_row_event rfl 177 (.tmp 4) (.tmp 87) rfl g4 _ rfl rfl 177 _ B4.out (by kernel_rfl) rfl (by simp [Value.oneCell', ssA]) ?_; intro v874 h_ q_; replace B2 := Lib.hid (blk_grown B2.out q_ (by intro e_; injection e_ with e_; exact N24.out e_)); replace B3 := Lib.hid (blk_grown B3.out q_ (by intro e_; injection e_ with e_; exact N34.out e_)); replace HB := Lib.hid (below_of_grown HB.out q_ L4.out HB.out.size); replace B4 := Lib.hid h_; clear h_ q_)
                  | (fail))
                exact bodyPost_ret (results_ct rfl _ _ g4 177 _ (0, 0) _ rfl B4.out Try.underlying177 rfl (by kernel_rfl)) rfl ⟨by rw [HF.out]; rfl, HB.out⟩
              | true =>
                have HF := Lib.hid (show aftF ⟨k, t, v, lo, fr⟩ x = putF p x.f4.f2 x.f7.f1 by unfold aftF; rw [if_neg (by rw [hr]; decide), if_neg nn, if_neg n3, if_neg k2, if_pos k3, hp, if_pos rfl])
                clear k2 k3 hp c2 c3 c4 ha nn n3
                go_enter Try.func93, Try.ntmps93
                go_upto_region 7 with (first
                  | ((with_reducible refine gate_dst (N := 2) rfl ?_); refine box_event rfl (N := 2) rfl (cs := #[.string k, .bool t, .string v, .int .i64 lo, .int .i64 fr]) (t := 177) (by first | (go_simp; done) | (go_simp; rfl)) ?_; intro g2 e2 w2 h2 b2; have L2 := Lib.hid (Nat.le_trans HB.out.size (Nat.le_of_eq e2.symm)); replace HB := Lib.hid (below_step HB.out b2); have B2 := Lib.hid h2; clear h2 b2 e2)
                  | ((with_reducible refine gate_dst (N := 3) rfl ?_); refine box_event rfl (N := 3) rfl (cs := #[.int .i64 x.f0, .int .i64 x.f1, .bool x.f2, .string x.f3, .int .i64 x.f4.f0, .string x.f4.f1, .string x.f4.f2, .int .i64 x.f4.f3, .int .i64 x.f5, .int .i64 x.f6, .int .i64 x.f7.f0, .int .i64 x.f7.f1, .string x.f8.f0, .string x.f8.f1, .int .i64 x.f8.f2, .bool x.f9]) (t := 39) (by first | (go_simp; done) | (go_simp; rfl)) ?_; intro g3 e3 w3 h3 b3; have L3 := Lib.hid (Nat.le_trans HB.out.size (Nat.le_of_eq e3.symm)); have N23 := Lib.hid (Nat.ne_of_lt (Nat.lt_of_lt_of_eq (blk_lt B2.out) e3.symm)); have N32 := Lib.hid N23.out.symm; replace B2 := Lib.hid (blk_below B2.out b3); replace HB := Lib.hid (below_step HB.out b3); have B3 := Lib.hid h3; clear h3 b3 e3)
                  | ((with_reducible refine gate_dst (N := 4) rfl ?_); refine box_event rfl (N := 4) rfl (cs := #[.string ⟨#[]⟩, .bool false, .string ⟨#[]⟩, .int .i64 0, .int .i64 0]) (t := 177) (by first | (go_simp; done) | (go_simp; rfl)) ?_; intro g4 e4 w4 h4 b4; have L4 := Lib.hid (Nat.le_trans HB.out.size (Nat.le_of_eq e4.symm)); have N24 := Lib.hid (Nat.ne_of_lt (Nat.lt_of_lt_of_eq (blk_lt B2.out) e4.symm)); have N42 := Lib.hid N24.out.symm; replace B2 := Lib.hid (blk_below B2.out b4); have N34 := Lib.hid (Nat.ne_of_lt (Nat.lt_of_lt_of_eq (blk_lt B3.out) e4.symm)); have N43 := Lib.hid N34.out.symm; replace B3 := Lib.hid (blk_below B3.out b4); replace HB := Lib.hid (below_step HB.out b4); have B4 := Lib.hid h4; clear h4 b4 e4)
                  | ((with_reducible refine gate_dst (N := 11) rfl ?_); refine wpList_load_cell rfl 4 (.tmp 10) rfl g3 2 rfl _ _ B3.out (.bool false) (by rw [← hr]; rfl) _ Try.underlying4 rfl ?_)
                  | (fail))
                have z4 := (blk_cell B3.out 4).trans (show _ = some (Value.int .i64 x.f4.f0) from rfl)
                have z10 := (blk_cell B3.out 10).trans (show _ = some (Value.int .i64 x.f7.f0) from rfl)
                go_quiet (fail)
                have HB := Lib.hid (pw_below_drewN HB.out nq)
                have B2 := Lib.hid (blk_drewN B2.out nq)
                have B3 := Lib.hid (blk_drewN B3.out nq)
                have B4 := Lib.hid (blk_drewN B4.out nq)
                clear z4 z10
                go_wp2_with (first
                  | ((with_reducible refine gate_dst (N := 44) rfl ?_); refine wpList_load_row rfl 39 (.tmp 3) rfl g3 rfl 39 _ (0, 0) _ B3.out Try.underlying39 rfl (by kernel_rfl) ?_)
                  | (go_at_call 44; (with_reducible refine (HA.out _).mono ?_); rintro e_ W_ ⟨rfl, hb⟩; replace B2 := Lib.hid (blk_below B2.out hb); replace B3 := Lib.hid (blk_below B3.out hb); replace B4 := Lib.hid (blk_below B4.out hb); replace HB := Lib.hid (below_step HB.out hb); clear hb)
                  | ((with_reducible refine gate_dst (N := 78) rfl ?_); refine wpList_load_row rfl 177 (.tmp 2) rfl g2 rfl 177 _ (0, 0) _ B2.out Try.underlying177 rfl (by kernel_rfl) ?_)
                  | ((with_reducible refine gate_dst (N := 81) rfl ?_); refine wpList_load_cell rfl 3 (.tmp 80) rfl g3 7 rfl _ _ B3.out _ rfl _ Try.underlying3 rfl ?_)
                  | (go_at_call 127; (with_reducible refine (HV.out _).mono ?_); rintro e_ W_ ⟨rfl, hb⟩; replace B2 := Lib.hid (blk_below B2.out hb); replace B3 := Lib.hid (blk_below B3.out hb); replace B4 := Lib.hid (blk_below B4.out hb); replace HB := Lib.hid (below_step HB.out hb); clear hb)
                  | ((with_reducible refine gate_dst (N := 8) rfl ?_); refine box_event rfl (N := 8) rfl (cs := #[.string ⟨#[]⟩, .bool false, .string ⟨#[]⟩, .int .i64 0, .int .i64 0]) (t := 177) (by first | (go_simp; done) | (go_simp; rfl)) ?_; intro g8 e8 w8 h8 b8; have L8 := Lib.hid (Nat.le_trans HB.out.size (Nat.le_of_eq e8.symm)); have N28 := Lib.hid (Nat.ne_of_lt (Nat.lt_of_lt_of_eq (blk_lt B2.out) e8.symm)); have N82 := Lib.hid N28.out.symm; replace B2 := Lib.hid (blk_below B2.out b8); have N38 := Lib.hid (Nat.ne_of_lt (Nat.lt_of_lt_of_eq (blk_lt B3.out) e8.symm)); have N83 := Lib.hid N38.out.symm; replace B3 := Lib.hid (blk_below B3.out b8); have N48 := Lib.hid (Nat.ne_of_lt (Nat.lt_of_lt_of_eq (blk_lt B4.out) e8.symm)); have N84 := Lib.hid N48.out.symm; replace B4 := Lib.hid (blk_below B4.out b8); replace HB := Lib.hid (below_step HB.out b8); have B8 := Lib.hid h8; clear h8 b8 e8)
                  | ((with_reducible refine gate_store (t := 177) (p := 8) rfl ?_); refine store_row_event rfl 177 (.tmp 8) (.tmp 83) rfl g8 _ rfl rfl 177 _ B8.out (by kernel_rfl) rfl (by simp [Value.oneCell', ssA]) ?_; intro v838 h_ q_; replace B2 := Lib.hid (blk_grown B2.out q_ (by intro e_; injection e_ with e_; exact N28.out e_)); replace B3 := Lib.hid (blk_grown B3.out q_ (by intro e_; injection e_ with e_; exact N38.out e_)); replace B4 := Lib.hid (blk_grown B4.out q_ (by intro e_; injection e_ with e_; exact N48.out e_)); replace HB := Lib.hid (below_of_grown HB.out q_ L8.out HB.out.size); replace B8 := Lib.hid h_; clear h_ q_)
                  | ((with_reducible refine gate_dst (N := 88) rfl ?_); refine wpList_load_row rfl 177 (.tmp 8) rfl g8 rfl 177 _ (0, 0) _ B8.out Try.underlying177 rfl (by kernel_rfl) ?_)
                  | ((with_reducible refine gate_store (t := 177) (p := 2) rfl ?_); refine store_row_event rfl 177 (.tmp 2) (.tmp 88) rfl g2 _ rfl rfl 177 _ B2.out (by kernel_rfl) rfl (by simp [Value.oneCell', ssA]) ?_; intro v882 h_ q_; replace B3 := Lib.hid (blk_grown B3.out q_ (by intro e_; injection e_ with e_; exact N32.out e_)); replace B4 := Lib.hid (blk_grown B4.out q_ (by intro e_; injection e_ with e_; exact N42.out e_)); replace HB := Lib.hid (below_of_grown HB.out q_ L2.out HB.out.size); replace B2 := Lib.hid h_; clear h_ q_)
                  | ((with_reducible refine gate_dst (N := 89) rfl ?_); refine wpList_load_row rfl 177 (.tmp 2) rfl g2 rfl 177 _ (0, 0) _ B2.out Try.underlying177 rfl (by kernel_rfl) ?_)
                  | ((with_reducible refine gate_dst (N := 92) rfl ?_); refine wpList_load_cell rfl 9 (.tmp 91) rfl g3 6 rfl _ _ B3.out _ rfl _ Try.underlying9 rfl ?_)
                  | ((with_reducible refine gate_dst (N := 95) rfl ?_); refine wpList_load_cell rfl 3 (.tmp 94) rfl g3 11 rfl _ _ B3.out _ rfl _ Try.underlying3 rfl ?_)
                  | (go_at_call 129; (with_reducible refine (puts_any _ _ _ _ _ _ _ _).mono ?_); rintro e_ W_ ⟨rfl, hb⟩; replace B2 := Lib.hid (blk_below B2.out hb); replace B3 := Lib.hid (blk_below B3.out hb); replace B4 := Lib.hid (blk_below B4.out hb); replace HB := Lib.hid (below_step HB.out hb); clear hb)
                  | ((with_reducible refine gate_store (t := 177) (p := 4) rfl ?_); refine store_row_event rfl 177 (.tmp 4) (.tmp 97) rfl g4 _ rfl rfl 177 _ B4.out (by kernel_rfl) rfl (by simp [Value.oneCell', ssA]) ?_; intro v974 h_ q_; replace B2 := Lib.hid (blk_grown B2.out q_ (by intro e_; injection e_ with e_; exact N24.out e_)); replace B3 := Lib.hid (blk_grown B3.out q_ (by intro e_; injection e_ with e_; exact N34.out e_)); replace HB := Lib.hid (below_of_grown HB.out q_ L4.out HB.out.size); replace B4 := Lib.hid h_; clear h_ q_)
                  | (fail))
                exact bodyPost_ret (results_ct rfl _ _ g4 177 _ (0, 0) _ rfl B4.out Try.underlying177 rfl (by kernel_rfl)) rfl ⟨by rw [HF.out]; rfl, HB.out⟩
            · have kb3 : (x.f4.f0 == 3) = false := by simpa using k3
              have HF := Lib.hid (show aftF ⟨k, t, v, lo, fr⟩ x = putF ⟨k, t, v, lo, fr⟩ x.f4.f2 x.f7.f1 by unfold aftF; rw [if_neg (by rw [hr]; decide), if_neg nn, if_neg n3, if_neg k2, if_neg k3])
              clear k2 k3 c2 c3 c4 ha nn n3
              go_enter Try.func93, Try.ntmps93
              go_upto_region 7 with (first
                | ((with_reducible refine gate_dst (N := 2) rfl ?_); refine box_event rfl (N := 2) rfl (cs := #[.string k, .bool t, .string v, .int .i64 lo, .int .i64 fr]) (t := 177) (by first | (go_simp; done) | (go_simp; rfl)) ?_; intro g2 e2 w2 h2 b2; have L2 := Lib.hid (Nat.le_trans HB.out.size (Nat.le_of_eq e2.symm)); replace HB := Lib.hid (below_step HB.out b2); have B2 := Lib.hid h2; clear h2 b2 e2)
                | ((with_reducible refine gate_dst (N := 3) rfl ?_); refine box_event rfl (N := 3) rfl (cs := #[.int .i64 x.f0, .int .i64 x.f1, .bool x.f2, .string x.f3, .int .i64 x.f4.f0, .string x.f4.f1, .string x.f4.f2, .int .i64 x.f4.f3, .int .i64 x.f5, .int .i64 x.f6, .int .i64 x.f7.f0, .int .i64 x.f7.f1, .string x.f8.f0, .string x.f8.f1, .int .i64 x.f8.f2, .bool x.f9]) (t := 39) (by first | (go_simp; done) | (go_simp; rfl)) ?_; intro g3 e3 w3 h3 b3; have L3 := Lib.hid (Nat.le_trans HB.out.size (Nat.le_of_eq e3.symm)); have N23 := Lib.hid (Nat.ne_of_lt (Nat.lt_of_lt_of_eq (blk_lt B2.out) e3.symm)); have N32 := Lib.hid N23.out.symm; replace B2 := Lib.hid (blk_below B2.out b3); replace HB := Lib.hid (below_step HB.out b3); have B3 := Lib.hid h3; clear h3 b3 e3)
                | ((with_reducible refine gate_dst (N := 4) rfl ?_); refine box_event rfl (N := 4) rfl (cs := #[.string ⟨#[]⟩, .bool false, .string ⟨#[]⟩, .int .i64 0, .int .i64 0]) (t := 177) (by first | (go_simp; done) | (go_simp; rfl)) ?_; intro g4 e4 w4 h4 b4; have L4 := Lib.hid (Nat.le_trans HB.out.size (Nat.le_of_eq e4.symm)); have N24 := Lib.hid (Nat.ne_of_lt (Nat.lt_of_lt_of_eq (blk_lt B2.out) e4.symm)); have N42 := Lib.hid N24.out.symm; replace B2 := Lib.hid (blk_below B2.out b4); have N34 := Lib.hid (Nat.ne_of_lt (Nat.lt_of_lt_of_eq (blk_lt B3.out) e4.symm)); have N43 := Lib.hid N34.out.symm; replace B3 := Lib.hid (blk_below B3.out b4); replace HB := Lib.hid (below_step HB.out b4); have B4 := Lib.hid h4; clear h4 b4 e4)
                | ((with_reducible refine gate_dst (N := 11) rfl ?_); refine wpList_load_cell rfl 4 (.tmp 10) rfl g3 2 rfl _ _ B3.out (.bool false) (by rw [← hr]; rfl) _ Try.underlying4 rfl ?_)
                | (fail))
              have z4 := (blk_cell B3.out 4).trans (show _ = some (Value.int .i64 x.f4.f0) from rfl)
              have z10 := (blk_cell B3.out 10).trans (show _ = some (Value.int .i64 x.f7.f0) from rfl)
              go_quiet (fail)
              have HB := Lib.hid (pw_below_drewN HB.out nq)
              have B2 := Lib.hid (blk_drewN B2.out nq)
              have B3 := Lib.hid (blk_drewN B3.out nq)
              have B4 := Lib.hid (blk_drewN B4.out nq)
              clear z4 z10
              go_wp2_with (first
                | ((with_reducible refine gate_dst (N := 44) rfl ?_); refine wpList_load_row rfl 39 (.tmp 3) rfl g3 rfl 39 _ (0, 0) _ B3.out Try.underlying39 rfl (by kernel_rfl) ?_)
                | (go_at_call 44; (with_reducible refine (HA.out _).mono ?_); rintro e_ W_ ⟨rfl, hb⟩; replace B2 := Lib.hid (blk_below B2.out hb); replace B3 := Lib.hid (blk_below B3.out hb); replace B4 := Lib.hid (blk_below B4.out hb); replace HB := Lib.hid (below_step HB.out hb); clear hb)
                | ((with_reducible refine gate_dst (N := 89) rfl ?_); refine wpList_load_row rfl 177 (.tmp 2) rfl g2 rfl 177 _ (0, 0) _ B2.out Try.underlying177 rfl (by kernel_rfl) ?_)
                | ((with_reducible refine gate_dst (N := 92) rfl ?_); refine wpList_load_cell rfl 9 (.tmp 91) rfl g3 6 rfl _ _ B3.out _ rfl _ Try.underlying9 rfl ?_)
                | ((with_reducible refine gate_dst (N := 95) rfl ?_); refine wpList_load_cell rfl 3 (.tmp 94) rfl g3 11 rfl _ _ B3.out _ rfl _ Try.underlying3 rfl ?_)
                | (go_at_call 129; (with_reducible refine (puts_any _ _ _ _ _ _ _ _).mono ?_); rintro e_ W_ ⟨rfl, hb⟩; replace B2 := Lib.hid (blk_below B2.out hb); replace B3 := Lib.hid (blk_below B3.out hb); replace B4 := Lib.hid (blk_below B4.out hb); replace HB := Lib.hid (below_step HB.out hb); clear hb)
                | ((with_reducible refine gate_store (t := 177) (p := 4) rfl ?_); refine store_row_event rfl 177 (.tmp 4) (.tmp 97) rfl g4 _ rfl rfl 177 _ B4.out (by kernel_rfl) rfl (by simp [Value.oneCell', ssA]) ?_; intro v974 h_ q_; replace B2 := Lib.hid (blk_grown B2.out q_ (by intro e_; injection e_ with e_; exact N24.out e_)); replace B3 := Lib.hid (blk_grown B3.out q_ (by intro e_; injection e_ with e_; exact N34.out e_)); replace HB := Lib.hid (below_of_grown HB.out q_ L4.out HB.out.size); replace B4 := Lib.hid h_; clear h_ q_)
                | (fail))
              exact bodyPost_ret (results_ct rfl _ _ g4 177 _ (0, 0) _ rfl B4.out Try.underlying177 rfl (by kernel_rfl)) rfl ⟨by rw [HF.out]; rfl, HB.out⟩
theorem after_any (s : SS) (x : S39) (w : World) : Calls Try.prog 93 #[ssA s, .agg #[.int .i64 x.f0, .int .i64 x.f1, .bool x.f2, .string x.f3, .int .i64 x.f4.f0, .string x.f4.f1, .string x.f4.f2, .int .i64 x.f4.f3, .int .i64 x.f5, .int .i64 x.f6, .int .i64 x.f7.f0, .int .i64 x.f7.f1, .string x.f8.f0, .string x.f8.f1, .int .i64 x.f8.f2, .bool x.f9]] w fun e w' => e = .returned (.tuple #[ssA (aftF s x).1, .bool (aftF s x).2]) ∧ Below w.heap.size w w' := by
  cases h : x.f2 with
  | true => exact h ▸ after_read s.k s.t s.v s.lo s.fr x h w
  | false => exact h ▸ after_upd s.k s.t s.v s.lo s.fr x h w
end Go.Proofs.Ytbakmkoppieelaa.PLinearChecks

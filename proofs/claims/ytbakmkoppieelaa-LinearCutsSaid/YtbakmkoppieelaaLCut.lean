/- What is proved: what Cut answers, of any calls. -/
import Derived.Test.YtbakmkoppieelaaLAwk
namespace Go.Proofs.Ytbakmkoppieelaa.PLinearChecks
open Go.RowKit Go.Proofs.YtbakmkoppieelaaW.PrintWords Go.Proofs.YtbakmkoppieelaaW.PrintLast Go.Proofs.YtbakmkoppieelaaW.PrintMore
set_option linter.unusedVariables false
set_option linter.unusedSimpArgs false
def setL (cs : Array Value) : Nat → List Value → Array Value
  | _, [] => cs
  | o, v :: r => setL (cs.setIfInBounds o v) (o + 1) r
theorem setCells_blk {g : Nat} {t : TypeId} : ∀ (vs : List Value) (o : Nat) (w : World) (cs : Array Value), w.heap[g]? = some (.cells cs t (0, 0)) → (w.setCells g o vs).heap[g]? = some (.cells (setL cs o vs) t (0, 0)) ∧ w.grownBy (w.setCells g o vs) (some g)
  | [], _, w, _, h => ⟨h, ⟨rfl, rfl, rfl, Nat.le_refl _, fun _ _ _ => rfl⟩⟩
  | v :: r, o, w, cs, h => by
    obtain ⟨h1, h2⟩ := setCells_blk r (o + 1) (w.setCell ⟨g, o, none⟩ v) _ (blk_set h o v)
    refine ⟨h1, h2.os, h2.tape, h2.output, ?_, fun k hk hne => ?_⟩
    · have h3 := h2.size
      have h4 : (w.setCell ⟨g, o, none⟩ v).heap.size = w.heap.size := by simp [World.setCell]
      rw [h4] at h3
      exact h3
    · have h4 : (w.setCell ⟨g, o, none⟩ v).heap.size = w.heap.size := by simp [World.setCell]
      exact (h2.block k (by rw [h4]; exact hk) hne).trans (Below.heap_setCell w _ v k (fun e => hne (by rw [e])))
theorem store_mid_event {P : Program} {ops : Array Oper} {rest : List Oper} {o : Oper} {a : Act} {w : World} {Q : Exit → Act → World → Prop} (hgd : o.guard = none) (ty : TypeId) (x y : Operand) (ho : o.op = .store ty x y)
    (g i : Nat) (cells : Array Value) (hx : a.eval x = .pointer (some ⟨g, i, none⟩)) (hy : a.eval y = .agg cells) (t : TypeId) (cs : Array Value) (hg : w.heap[g]? = some (.cells cs t (0, 0))) (hl : i + cells.size ≤ cs.size)
    (hi : (P.info? ty).map (·.size) = some cells.size) (h1 : cells.all (·.oneCell') = true)
    (h : ∀ w', w'.heap[g]? = some (.cells (setL cs i cells.toList) t (0, 0)) → w.grownBy w' (some g) → wpList P ops Q rest (a.put o.dst undef) w') : wpList P ops Q (o :: rest) a w := by
  obtain ⟨h2, h3⟩ := setCells_blk cells.toList i w cs hg
  exact wpList_store_mid hgd ty x y ho g i cells hx hy (fun j hj => ⟨by rw [blk_cell hg, Option.isSome_iff_exists]; exact ⟨cs[i + j], by simp⟩, blk_frozen hg _⟩) hi h1 (h _ h2 h3)
theorem cutT_take (row : Int) : ∀ (l : List S39) (i : Nat), i ≤ l.length → (∀ j, j < i → (cl l j).f5 < row) → cutT row l = (l.take i).map (cutC row) ++ cutT row (l.drop i) := by
  intro l
  induction l with
  | nil => intro i hi _; have : i = 0 := by simpa using hi
           subst this; rfl
  | cons c t ih =>
    intro i hi h
    cases i with
    | zero => rfl
    | succ i =>
      have h0 : c.f5 < row := h 0 (by omega)
      rw [cutT, if_neg (by omega), ih i (by simpa using hi) (fun j hj => h (j + 1) (by omega))]
      rfl
theorem cutT_stop {row : Int} {l : List S39} {i : Int} (i0 : 0 ≤ i) (i1 : i < l.length) (h : ∀ j : Nat, (j : Int) < i → (cl l j).f5 < row) (hs : (rd_T39 l i).f5 ≥ row) : cutT row l = (l.take i.toNat).map (cutC row) := by
  rw [cutT_take row l i.toNat (by omega) (fun j hj => h j (by omega)), List.drop_eq_getElem_cons (show i.toNat < l.length by omega), cutT, if_pos ?_, List.append_nil]
  have e : rd_T39 l i = l[i.toNat]'(by omega) := by
    unfold rd_T39
    rw [List.getD_eq_getElem?_getD, List.getElem?_eq_getElem (by omega)]
    rfl
  rw [← e]
  exact hs
theorem cutT_all {row : Int} {l : List S39} (h : ∀ j : Nat, (j : Int) < l.length → (cl l j).f5 < row) : cutT row l = (l.take l.length).map (cutC row) := by
  rw [cutT_take row l l.length (Nat.le_refl _) (fun j hj => h j (by omega)), List.drop_length]
  simp [cutT]
theorem take_cut {row : Int} {l : List S39} {i : Int} (i0 : 0 ≤ i) (i1 : i < l.length) : (l.take (i + 1).toNat).map (cutC row) = (l.take i.toNat).map (cutC row) ++ [cutC row (rd_T39 l i)] := by
  have e : rd_T39 l i = l[i.toNat]'(by omega) := by
    unfold rd_T39
    rw [List.getD_eq_getElem?_getD, List.getElem?_eq_getElem (by omega)]
    rfl
  rw [show (i + 1).toNat = i.toNat + 1 by omega, List.take_succ_eq_append_getElem (by omega), List.map_append, e]
  rfl
open Classical in
/-- What Cut answers. -/
noncomputable def cutLL (l : List S39) (row : Int) : List S39 := if refF l = 0 then (if row < 0 then [] else cutT row l) else []
open Classical in
noncomputable def cutEE (l : List S39) (row : Int) : Int := if refF l = 0 then (if row < 0 then 1 else 0) else 260
def CutTo (w : World) (l : List S39) (row : Int) (e : Ending) (w' : World) : Prop :=
  ∃ v, e = .returned (.tuple #[v, .int .i64 (cutEE l row)]) ∧ Kd.R k39 39 w' w.heap.size (fun _ => True) v (cutLL l row) ∧ Below w.heap.size w w'
set_option maxRecDepth 100000 in
set_option maxHeartbeats 32000000 in
theorem cut_any (w : World) (A : Option Addr) (c : Nat) (l : List S39) (row : Int) (hr : Kd.C k39 w A l.length l) (hc : l.length ≤ c) (hn : l.length * 168 ≤ 140737488351232) (hwf : ∀ x ∈ l, wfC x) :
    Calls Try.prog 22 #[.slice A l.length c, .int .i64 row] w fun e w' => CutTo w l row e w' := by
  have HCHK := Lib.hid (fun r (h : refF l = r) => linear_Check.calls A c l r w hr hc (by unfold linear_Check.f; rw [if_pos ⟨by omega, hwf⟩, h]))
  have HR := Lib.hid hr
  have HC := Lib.hid hc
  have HN := Lib.hid hn
  clear hr hwf hc hn
  rcases ref_two l with he | he
  · have HCH := Lib.hid (HCHK.out 0 he)
    by_cases hrow : row < 0
    · have HE := Lib.hid (And.intro (show cutLL l row = [] by unfold cutLL; rw [if_pos he, if_pos hrow]) (show cutEE l row = 1 by unfold cutEE; rw [if_pos he, if_pos hrow]))
      have hl1 : decide (row < 0) = true := decide_eq_true hrow
      clear he hrow
      go_enter Try.func22, Try.ntmps22
      go_wp2_with (first
        | (go_at_call 16; (with_reducible refine HCH.out.mono ?_); rintro e_ W_ ⟨rfl, hb⟩; have HB := Lib.hid hb; clear hb)
        | (fail))
      go_ret2
      unfold CutTo
      rw [HE.out.1, HE.out.2]
      exact ⟨.slice none 0 0, rfl, Kd.R_nil _ _ _ _ _, HB.out⟩
    · have HE := Lib.hid (And.intro (show cutLL l row = cutT row l by unfold cutLL; rw [if_pos he, if_neg hrow]) (show cutEE l row = 0 by unfold cutEE; rw [if_pos he, if_neg hrow]))
      have hl1 : decide (row < 0) = false := decide_eq_false hrow
      clear he hrow
      go_enter Try.func22, Try.ntmps22
      go_wp2_with (first
        | (go_at_call 16; (with_reducible refine HCH.out.mono ?_); rintro e_ W_ ⟨rfl, hb⟩; have HB := Lib.hid hb; clear hb)
        | (fail))
      go_loopw [7, 19] (fun v7 v19 wr => ∃ i : Int, v19 = .int .i64 i ∧ (0 ≤ i ∧ i ≤ (l.length : Int)) ∧ RowKit.Hid (∀ j : Nat, (j : Int) < i → (cl l j).f5 < row) ∧ RowKit.Hid (Kd.R k39 39 wr w.heap.size (fun _ => True) v7 ((l.take i.toNat).map (cutC row)) ∧ Below w.heap.size w wr)) (fun _ v19 _ => ((l.length : Int) - intOf v19).toNat)
      case atStart => exact ⟨0, rfl, ⟨by omega, by omega⟩, Lib.hid (fun j hj => by omega), Lib.hid ⟨Kd.R_nil _ _ _ _ _, HB.out⟩⟩
      case round =>
        clear HB
        obtain ⟨i, rfl, ⟨i0, i1⟩, HJ, HRB⟩ := hrel
        by_cases hlt : i < (l.length : Int)
        · have c1 : decide (i < (l.length : Int)) = true := decide_eq_true hlt
          have PI := Lib.hid (show 0 ≤ i ∧ i < (l.length : Int) ∧ i.toNat < l.length by omega)
          have pI := eq_true i0
          have qI := eq_true hlt
          have wi : wrap64 (i + 1) = i + 1 := by have h2 := HN.out; unfold wrap64; omega
          have wi2 : IntKind.i64.wrap (i + 1) = i + 1 := (i64_w _).trans wi
          obtain ⟨ad, eA, RK⟩ := row39 (Kd.C_below HR.out HRB.out.2) i i0 hlt
          cases eA
          have RK := Lib.hid RK
          have RV := Lib.hid HRB.out.1
          have HB := Lib.hid HRB.out.2
          have HTK := Lib.hid (take_cut (row := row) i0 hlt)
          have HLN := Lib.hid (show ((l.take i.toNat).map (cutC row)).length = i.toNat by simp; omega)
          clear i0 i1 hlt HRB
          by_cases h5 : (rd_T39 l i).f5 ≥ row
          · have h5b : decide ((rd_T39 l i).f5 ≥ row) = true := decide_eq_true h5
            have h5c : decide (row ≤ (rd_T39 l i).f5) = true := decide_eq_true h5
            have HST := Lib.hid (cutT_stop PI.out.1 PI.out.2.1 HJ.out h5)
            clear h5
            go_wp2_with (first
              | ((with_reducible refine gate_dst (N := 22) rfl ?_); refine wpList_load_p rfl 39 (.tmp 21) rfl (ad.add (i.toNat * 16)) rfl [.int .i64 (rd_T39 l i).f0, .int .i64 (rd_T39 l i).f1, .bool (rd_T39 l i).f2, .string (rd_T39 l i).f3, .int .i64 (rd_T39 l i).f4.f0, .string (rd_T39 l i).f4.f1, .string (rd_T39 l i).f4.f2, .int .i64 (rd_T39 l i).f4.f3, .int .i64 (rd_T39 l i).f5, .int .i64 (rd_T39 l i).f6, .int .i64 (rd_T39 l i).f7.f0, .int .i64 (rd_T39 l i).f7.f1, .string (rd_T39 l i).f8.f0, .string (rd_T39 l i).f8.f1, .int .i64 (rd_T39 l i).f8.f2, .bool (rd_T39 l i).f9] _ RK.out Try.underlying39 rfl (by kernel_rfl) ?_)
              | ((with_reducible refine gate_dst (N := 9) rfl ?_); refine box_event rfl (N := 9) rfl (cs := #[.int .i64 0, .int .i64 0, .bool false, .string ⟨#[]⟩, .int .i64 0, .string ⟨#[]⟩, .string ⟨#[]⟩, .int .i64 0, .int .i64 0, .int .i64 0, .int .i64 0, .int .i64 0, .string ⟨#[]⟩, .string ⟨#[]⟩, .int .i64 0, .bool false]) (t := 39) (by first | (go_simp; done) | (go_simp; rfl)) ?_; intro g9 e9 w9 h9 b9; have N9 := Lib.hid (Nat.le_trans HB.out.size (Nat.le_of_eq e9.symm)); have V9 := Lib.hid (show some g9 ≠ Value.ownBlock u7 from fun e => by have := (Kd.R_lt RV.out _ e.symm); omega); replace HB := Lib.hid (below_step HB.out b9); replace RV := Lib.hid (Kd.R_below RV.out b9); have B9 := Lib.hid h9; clear h9 b9 e9)
              | ((with_reducible refine gate_store (t := 39) (p := 9) rfl ?_); refine store_row_event rfl 39 (.tmp 9) (.tmp 22) rfl g9 #[.int .i64 (rd_T39 l i).f0, .int .i64 (rd_T39 l i).f1, .bool (rd_T39 l i).f2, .string (rd_T39 l i).f3, .int .i64 (rd_T39 l i).f4.f0, .string (rd_T39 l i).f4.f1, .string (rd_T39 l i).f4.f2, .int .i64 (rd_T39 l i).f4.f3, .int .i64 (rd_T39 l i).f5, .int .i64 (rd_T39 l i).f6, .int .i64 (rd_T39 l i).f7.f0, .int .i64 (rd_T39 l i).f7.f1, .string (rd_T39 l i).f8.f0, .string (rd_T39 l i).f8.f1, .int .i64 (rd_T39 l i).f8.f2, .bool (rd_T39 l i).f9] rfl rfl 39 _ B9.out (by kernel_rfl) rfl (by simp [Value.oneCell']) ?_; intro v9 h_ q_; replace HB := Lib.hid (below_of_grown HB.out q_ N9.out HB.out.size); replace RV := Lib.hid (Kd.R_grown1 RV.out rfl q_ V9.out); replace B9 := Lib.hid h_; clear h_ q_)
              | ((with_reducible refine gate_dst (N := 24) rfl ?_); refine wpList_load_cell rfl 3 (.tmp 23) rfl g9 8 rfl _ _ B9.out (.int .i64 (rd_T39 l i).f5) rfl _ Try.underlying3 rfl ?_)
              | (fail))
            go_ret2
            unfold CutTo
            rw [HE.out.1, HE.out.2, HST.out]
            exact ⟨_, rfl, RV.out, HB.out⟩
          · have h5b : decide ((rd_T39 l i).f5 ≥ row) = false := decide_eq_false h5
            have h5c : decide (row ≤ (rd_T39 l i).f5) = false := decide_eq_false h5
            have HJ2 : RowKit.Hid (∀ j : Nat, (j : Int) < i + 1 → (cl l j).f5 < row) := Lib.hid (fun j hj => by
              by_cases e : (j : Int) = i
              · have h : ¬ (rd_T39 l (j : Int)).f5 ≥ row := by rw [e]; exact h5
                rw [rd_cl] at h
                omega
              · exact HJ.out j (by omega))
            clear h5
            by_cases h6 : (rd_T39 l i).f6 ≥ row
            · have h6b : decide ((rd_T39 l i).f6 ≥ row) = true := decide_eq_true h6
              have h6c : decide (row ≤ (rd_T39 l i).f6) = true := decide_eq_true h6
              have HX := Lib.hid (show callL (cutC row (rd_T39 l i)) = [.int .i64 (rd_T39 l i).f0, .int .i64 (rd_T39 l i).f1, .bool (rd_T39 l i).f2, .string (rd_T39 l i).f3, .int .i64 (rd_T39 l i).f4.f0, .string (rd_T39 l i).f4.f1, .string (rd_T39 l i).f4.f2, .int .i64 (rd_T39 l i).f4.f3, .int .i64 (rd_T39 l i).f5, .int .i64 (-1), .int .i64 0, .int .i64 0, .string ⟨#[]⟩, .string ⟨#[]⟩, .int .i64 0, .bool false] by unfold cutC; rw [if_pos h6]; rfl)
              clear h6
              go_wp2_with (first
                | ((with_reducible refine gate_dst (N := 22) rfl ?_); refine wpList_load_p rfl 39 (.tmp 21) rfl (ad.add (i.toNat * 16)) rfl [.int .i64 (rd_T39 l i).f0, .int .i64 (rd_T39 l i).f1, .bool (rd_T39 l i).f2, .string (rd_T39 l i).f3, .int .i64 (rd_T39 l i).f4.f0, .string (rd_T39 l i).f4.f1, .string (rd_T39 l i).f4.f2, .int .i64 (rd_T39 l i).f4.f3, .int .i64 (rd_T39 l i).f5, .int .i64 (rd_T39 l i).f6, .int .i64 (rd_T39 l i).f7.f0, .int .i64 (rd_T39 l i).f7.f1, .string (rd_T39 l i).f8.f0, .string (rd_T39 l i).f8.f1, .int .i64 (rd_T39 l i).f8.f2, .bool (rd_T39 l i).f9] _ RK.out Try.underlying39 rfl (by kernel_rfl) ?_)
                | ((with_reducible refine gate_dst (N := 9) rfl ?_); refine box_event rfl (N := 9) rfl (cs := #[.int .i64 0, .int .i64 0, .bool false, .string ⟨#[]⟩, .int .i64 0, .string ⟨#[]⟩, .string ⟨#[]⟩, .int .i64 0, .int .i64 0, .int .i64 0, .int .i64 0, .int .i64 0, .string ⟨#[]⟩, .string ⟨#[]⟩, .int .i64 0, .bool false]) (t := 39) (by first | (go_simp; done) | (go_simp; rfl)) ?_; intro g9 e9 w9 h9 b9; have N9 := Lib.hid (Nat.le_trans HB.out.size (Nat.le_of_eq e9.symm)); have V9 := Lib.hid (show some g9 ≠ Value.ownBlock u7 from fun e => by have := (Kd.R_lt RV.out _ e.symm); omega); replace HB := Lib.hid (below_step HB.out b9); replace RV := Lib.hid (Kd.R_below RV.out b9); have B9 := Lib.hid h9; clear h9 b9 e9)
                | ((with_reducible refine gate_store (t := 39) (p := 9) rfl ?_); refine store_row_event rfl 39 (.tmp 9) (.tmp 22) rfl g9 #[.int .i64 (rd_T39 l i).f0, .int .i64 (rd_T39 l i).f1, .bool (rd_T39 l i).f2, .string (rd_T39 l i).f3, .int .i64 (rd_T39 l i).f4.f0, .string (rd_T39 l i).f4.f1, .string (rd_T39 l i).f4.f2, .int .i64 (rd_T39 l i).f4.f3, .int .i64 (rd_T39 l i).f5, .int .i64 (rd_T39 l i).f6, .int .i64 (rd_T39 l i).f7.f0, .int .i64 (rd_T39 l i).f7.f1, .string (rd_T39 l i).f8.f0, .string (rd_T39 l i).f8.f1, .int .i64 (rd_T39 l i).f8.f2, .bool (rd_T39 l i).f9] rfl rfl 39 _ B9.out (by kernel_rfl) rfl (by simp [Value.oneCell']) ?_; intro v9 h_ q_; replace HB := Lib.hid (below_of_grown HB.out q_ N9.out HB.out.size); replace RV := Lib.hid (Kd.R_grown1 RV.out rfl q_ V9.out); replace B9 := Lib.hid h_; clear h_ q_)
                | ((with_reducible refine gate_dst (N := 24) rfl ?_); refine wpList_load_cell rfl 3 (.tmp 23) rfl g9 8 rfl _ _ B9.out (.int .i64 (rd_T39 l i).f5) rfl _ Try.underlying3 rfl ?_)
                | ((with_reducible refine gate_dst (N := 28) rfl ?_); refine wpList_load_cell rfl 3 (.tmp 27) rfl g9 9 rfl _ _ B9.out (.int .i64 (rd_T39 l i).f6) rfl _ Try.underlying3 rfl ?_)
                | ((with_reducible refine gate_store (t := 3) (p := 33) rfl ?_); refine store_cell_event rfl 3 (.tmp 33) _ rfl g9 9 (.int .i64 (-1)) rfl rfl 39 _ B9.out (by show 9 < 16; decide) (by kernel_rfl) rfl rfl ?_; intro v33 h_ q_; replace HB := Lib.hid (below_of_grown HB.out q_ N9.out HB.out.size); replace RV := Lib.hid (Kd.R_grown1 RV.out rfl q_ V9.out); replace B9 := Lib.hid h_; clear h_ q_; replace B9 : RowKit.Hid (v33.heap[g9]? = some (Obj.cells #[.int .i64 (rd_T39 l i).f0, .int .i64 (rd_T39 l i).f1, .bool (rd_T39 l i).f2, .string (rd_T39 l i).f3, .int .i64 (rd_T39 l i).f4.f0, .string (rd_T39 l i).f4.f1, .string (rd_T39 l i).f4.f2, .int .i64 (rd_T39 l i).f4.f3, .int .i64 (rd_T39 l i).f5, .int .i64 (-1), .int .i64 (rd_T39 l i).f7.f0, .int .i64 (rd_T39 l i).f7.f1, .string (rd_T39 l i).f8.f0, .string (rd_T39 l i).f8.f1, .int .i64 (rd_T39 l i).f8.f2, .bool (rd_T39 l i).f9] 39 (0, 0))) := B9)
                | ((with_reducible refine gate_store (t := 35) (p := 34) rfl ?_); refine store_mid_event rfl 35 (.tmp 34) (.tmp 31) rfl g9 10 #[.int .i64 0, .int .i64 0] rfl rfl 39 _ B9.out (by show 10 + 2 ≤ 16; decide) (by kernel_rfl) (by simp [Value.oneCell']) ?_; intro v34 h_ q_; replace HB := Lib.hid (below_of_grown HB.out q_ N9.out HB.out.size); replace RV := Lib.hid (Kd.R_grown1 RV.out rfl q_ V9.out); replace B9 := Lib.hid h_; clear h_ q_; replace B9 : RowKit.Hid (v34.heap[g9]? = some (Obj.cells #[.int .i64 (rd_T39 l i).f0, .int .i64 (rd_T39 l i).f1, .bool (rd_T39 l i).f2, .string (rd_T39 l i).f3, .int .i64 (rd_T39 l i).f4.f0, .string (rd_T39 l i).f4.f1, .string (rd_T39 l i).f4.f2, .int .i64 (rd_T39 l i).f4.f3, .int .i64 (rd_T39 l i).f5, .int .i64 (-1), .int .i64 0, .int .i64 0, .string (rd_T39 l i).f8.f0, .string (rd_T39 l i).f8.f1, .int .i64 (rd_T39 l i).f8.f2, .bool (rd_T39 l i).f9] 39 (0, 0))) := B9)
                | ((with_reducible refine gate_store (t := 4) (p := 35) rfl ?_); refine store_cell_event rfl 4 (.tmp 35) _ rfl g9 15 (.bool false) rfl rfl 39 _ B9.out (by show 15 < 16; decide) (by kernel_rfl) rfl rfl ?_; intro v35 h_ q_; replace HB := Lib.hid (below_of_grown HB.out q_ N9.out HB.out.size); replace RV := Lib.hid (Kd.R_grown1 RV.out rfl q_ V9.out); replace B9 := Lib.hid h_; clear h_ q_; replace B9 : RowKit.Hid (v35.heap[g9]? = some (Obj.cells #[.int .i64 (rd_T39 l i).f0, .int .i64 (rd_T39 l i).f1, .bool (rd_T39 l i).f2, .string (rd_T39 l i).f3, .int .i64 (rd_T39 l i).f4.f0, .string (rd_T39 l i).f4.f1, .string (rd_T39 l i).f4.f2, .int .i64 (rd_T39 l i).f4.f3, .int .i64 (rd_T39 l i).f5, .int .i64 (-1), .int .i64 0, .int .i64 0, .string (rd_T39 l i).f8.f0, .string (rd_T39 l i).f8.f1, .int .i64 (rd_T39 l i).f8.f2, .bool false] 39 (0, 0))) := B9)
                | ((with_reducible refine gate_store (t := 37) (p := 36) rfl ?_); refine store_mid_event rfl 37 (.tmp 36) (.tmp 32) rfl g9 12 #[.string ⟨#[]⟩, .string ⟨#[]⟩, .int .i64 0] rfl rfl 39 _ B9.out (by show 12 + 3 ≤ 16; decide) (by kernel_rfl) (by simp [Value.oneCell']) ?_; intro v36 h_ q_; replace HB := Lib.hid (below_of_grown HB.out q_ N9.out HB.out.size); replace RV := Lib.hid (Kd.R_grown1 RV.out rfl q_ V9.out); replace B9 := Lib.hid h_; clear h_ q_; replace B9 : RowKit.Hid (v36.heap[g9]? = some (Obj.cells #[.int .i64 (rd_T39 l i).f0, .int .i64 (rd_T39 l i).f1, .bool (rd_T39 l i).f2, .string (rd_T39 l i).f3, .int .i64 (rd_T39 l i).f4.f0, .string (rd_T39 l i).f4.f1, .string (rd_T39 l i).f4.f2, .int .i64 (rd_T39 l i).f4.f3, .int .i64 (rd_T39 l i).f5, .int .i64 (-1), .int .i64 0, .int .i64 0, .string ⟨#[]⟩, .string ⟨#[]⟩, .int .i64 0, .bool false] 39 (0, 0))) := B9)
                | ((with_reducible refine gate_dst (N := 38) rfl ?_); refine wpList_load_row rfl 39 (.tmp 9) rfl g9 rfl 39 #[.int .i64 (rd_T39 l i).f0, .int .i64 (rd_T39 l i).f1, .bool (rd_T39 l i).f2, .string (rd_T39 l i).f3, .int .i64 (rd_T39 l i).f4.f0, .string (rd_T39 l i).f4.f1, .string (rd_T39 l i).f4.f2, .int .i64 (rd_T39 l i).f4.f3, .int .i64 (rd_T39 l i).f5, .int .i64 (-1), .int .i64 0, .int .i64 0, .string ⟨#[]⟩, .string ⟨#[]⟩, .int .i64 0, .bool false] (0, 0) _ B9.out Try.underlying39 rfl (by kernel_rfl) ?_)
                | (at_builtin; refine Kd.R_append_rows k39 (Rr := k39.K (World.alloc v36 (.cells #[.int .i64 (rd_T39 l i).f0, .int .i64 (rd_T39 l i).f1, .bool (rd_T39 l i).f2, .string (rd_T39 l i).f3, .int .i64 (rd_T39 l i).f4.f0, .string (rd_T39 l i).f4.f1, .string (rd_T39 l i).f4.f2, .int .i64 (rd_T39 l i).f4.f3, .int .i64 (rd_T39 l i).f5, .int .i64 (-1), .int .i64 0, .int .i64 0, .string ⟨#[]⟩, .string ⟨#[]⟩, .int .i64 0, .bool false] 39))) (w0 := w) w.heap.size rfl (.tmp 37) (.tmp 39) 22 39 (.agg #[.int .i64 0, .int .i64 0, .bool false, .string ⟨#[]⟩, .int .i64 0, .string ⟨#[]⟩, .string ⟨#[]⟩, .int .i64 0, .int .i64 0, .int .i64 0, .int .i64 0, .int .i64 0, .string ⟨#[]⟩, .string ⟨#[]⟩, .int .i64 0, .bool false]) 168 rfl Try.underlying22 info39 rfl (by decide) (by decide) u7 ((l.take i.toNat).map (cutC row)) [cutC row (rd_T39 l i)] (some ⟨World.heap v36 |>.size, 0, none⟩) 1 1 (fun _ => True) (fun _ => False) rfl rfl (Kd.R_alloc RV.out _) (by have h := one_C v36 (cutC row (rd_T39 l i)); rw [HX.out] at h; exact h) (fun x cs h => by rw [k39_open h]; exact k39_mkM _ _ _ x) (fun _ h => h.elim) (fun _ _ => trivial) (HB.out.alloc HB.out.size _) (by have := HB.out.size; simp; omega) (by rw [HLN.out]; have h1 := HN.out; have h2 := PI.out; omega) ?_; intro v2 w2 hR2 hb2 hg2 hat2; have R2 := Lib.hid hR2; have HB2 := Lib.hid hb2; clear hR2 hb2 hg2 hat2)
                | (fail))
              go_roundw
              case rel => exact ⟨i + 1, by first | rfl | go_num, ⟨by have := PI.out; omega, by have := PI.out; omega⟩, HJ2, Lib.hid ⟨by rw [HTK.out]; exact R2.out, HB2.out⟩⟩
              case measure => have := PI.out; simp [intOf]; omega
            · have h6b : decide ((rd_T39 l i).f6 ≥ row) = false := decide_eq_false h6
              have h6c : decide (row ≤ (rd_T39 l i).f6) = false := decide_eq_false h6
              have HX := Lib.hid (show callL (cutC row (rd_T39 l i)) = [.int .i64 (rd_T39 l i).f0, .int .i64 (rd_T39 l i).f1, .bool (rd_T39 l i).f2, .string (rd_T39 l i).f3, .int .i64 (rd_T39 l i).f4.f0, .string (rd_T39 l i).f4.f1, .string (rd_T39 l i).f4.f2, .int .i64 (rd_T39 l i).f4.f3, .int .i64 (rd_T39 l i).f5, .int .i64 (rd_T39 l i).f6, .int .i64 (rd_T39 l i).f7.f0, .int .i64 (rd_T39 l i).f7.f1, .string (rd_T39 l i).f8.f0, .string (rd_T39 l i).f8.f1, .int .i64 (rd_T39 l i).f8.f2, .bool (rd_T39 l i).f9] by unfold cutC; rw [if_neg h6]; rfl)
              clear h6
              go_wp2_with (first
                | ((with_reducible refine gate_dst (N := 22) rfl ?_); refine wpList_load_p rfl 39 (.tmp 21) rfl (ad.add (i.toNat * 16)) rfl [.int .i64 (rd_T39 l i).f0, .int .i64 (rd_T39 l i).f1, .bool (rd_T39 l i).f2, .string (rd_T39 l i).f3, .int .i64 (rd_T39 l i).f4.f0, .string (rd_T39 l i).f4.f1, .string (rd_T39 l i).f4.f2, .int .i64 (rd_T39 l i).f4.f3, .int .i64 (rd_T39 l i).f5, .int .i64 (rd_T39 l i).f6, .int .i64 (rd_T39 l i).f7.f0, .int .i64 (rd_T39 l i).f7.f1, .string (rd_T39 l i).f8.f0, .string (rd_T39 l i).f8.f1, .int .i64 (rd_T39 l i).f8.f2, .bool (rd_T39 l i).f9] _ RK.out Try.underlying39 rfl (by kernel_rfl) ?_)
                | ((with_reducible refine gate_dst (N := 9) rfl ?_); refine box_event rfl (N := 9) rfl (cs := #[.int .i64 0, .int .i64 0, .bool false, .string ⟨#[]⟩, .int .i64 0, .string ⟨#[]⟩, .string ⟨#[]⟩, .int .i64 0, .int .i64 0, .int .i64 0, .int .i64 0, .int .i64 0, .string ⟨#[]⟩, .string ⟨#[]⟩, .int .i64 0, .bool false]) (t := 39) (by first | (go_simp; done) | (go_simp; rfl)) ?_; intro g9 e9 w9 h9 b9; have N9 := Lib.hid (Nat.le_trans HB.out.size (Nat.le_of_eq e9.symm)); have V9 := Lib.hid (show some g9 ≠ Value.ownBlock u7 from fun e => by have := (Kd.R_lt RV.out _ e.symm); omega); replace HB := Lib.hid (below_step HB.out b9); replace RV := Lib.hid (Kd.R_below RV.out b9); have B9 := Lib.hid h9; clear h9 b9 e9)
                | ((with_reducible refine gate_store (t := 39) (p := 9) rfl ?_); refine store_row_event rfl 39 (.tmp 9) (.tmp 22) rfl g9 #[.int .i64 (rd_T39 l i).f0, .int .i64 (rd_T39 l i).f1, .bool (rd_T39 l i).f2, .string (rd_T39 l i).f3, .int .i64 (rd_T39 l i).f4.f0, .string (rd_T39 l i).f4.f1, .string (rd_T39 l i).f4.f2, .int .i64 (rd_T39 l i).f4.f3, .int .i64 (rd_T39 l i).f5, .int .i64 (rd_T39 l i).f6, .int .i64 (rd_T39 l i).f7.f0, .int .i64 (rd_T39 l i).f7.f1, .string (rd_T39 l i).f8.f0, .string (rd_T39 l i).f8.f1, .int .i64 (rd_T39 l i).f8.f2, .bool (rd_T39 l i).f9] rfl rfl 39 _ B9.out (by kernel_rfl) rfl (by simp [Value.oneCell']) ?_; intro v9 h_ q_; replace HB := Lib.hid (below_of_grown HB.out q_ N9.out HB.out.size); replace RV := Lib.hid (Kd.R_grown1 RV.out rfl q_ V9.out); replace B9 := Lib.hid h_; clear h_ q_)
                | ((with_reducible refine gate_dst (N := 24) rfl ?_); refine wpList_load_cell rfl 3 (.tmp 23) rfl g9 8 rfl _ _ B9.out (.int .i64 (rd_T39 l i).f5) rfl _ Try.underlying3 rfl ?_)
                | ((with_reducible refine gate_dst (N := 28) rfl ?_); refine wpList_load_cell rfl 3 (.tmp 27) rfl g9 9 rfl _ _ B9.out (.int .i64 (rd_T39 l i).f6) rfl _ Try.underlying3 rfl ?_)
                | ((with_reducible refine gate_dst (N := 38) rfl ?_); refine wpList_load_row rfl 39 (.tmp 9) rfl g9 rfl 39 #[.int .i64 (rd_T39 l i).f0, .int .i64 (rd_T39 l i).f1, .bool (rd_T39 l i).f2, .string (rd_T39 l i).f3, .int .i64 (rd_T39 l i).f4.f0, .string (rd_T39 l i).f4.f1, .string (rd_T39 l i).f4.f2, .int .i64 (rd_T39 l i).f4.f3, .int .i64 (rd_T39 l i).f5, .int .i64 (rd_T39 l i).f6, .int .i64 (rd_T39 l i).f7.f0, .int .i64 (rd_T39 l i).f7.f1, .string (rd_T39 l i).f8.f0, .string (rd_T39 l i).f8.f1, .int .i64 (rd_T39 l i).f8.f2, .bool (rd_T39 l i).f9] (0, 0) _ B9.out Try.underlying39 rfl (by kernel_rfl) ?_)
                | (at_builtin; refine Kd.R_append_rows k39 (Rr := k39.K (World.alloc v9 (.cells #[.int .i64 (rd_T39 l i).f0, .int .i64 (rd_T39 l i).f1, .bool (rd_T39 l i).f2, .string (rd_T39 l i).f3, .int .i64 (rd_T39 l i).f4.f0, .string (rd_T39 l i).f4.f1, .string (rd_T39 l i).f4.f2, .int .i64 (rd_T39 l i).f4.f3, .int .i64 (rd_T39 l i).f5, .int .i64 (rd_T39 l i).f6, .int .i64 (rd_T39 l i).f7.f0, .int .i64 (rd_T39 l i).f7.f1, .string (rd_T39 l i).f8.f0, .string (rd_T39 l i).f8.f1, .int .i64 (rd_T39 l i).f8.f2, .bool (rd_T39 l i).f9] 39))) (w0 := w) w.heap.size rfl (.tmp 37) (.tmp 39) 22 39 (.agg #[.int .i64 0, .int .i64 0, .bool false, .string ⟨#[]⟩, .int .i64 0, .string ⟨#[]⟩, .string ⟨#[]⟩, .int .i64 0, .int .i64 0, .int .i64 0, .int .i64 0, .int .i64 0, .string ⟨#[]⟩, .string ⟨#[]⟩, .int .i64 0, .bool false]) 168 rfl Try.underlying22 info39 rfl (by decide) (by decide) u7 ((l.take i.toNat).map (cutC row)) [cutC row (rd_T39 l i)] (some ⟨World.heap v9 |>.size, 0, none⟩) 1 1 (fun _ => True) (fun _ => False) rfl rfl (Kd.R_alloc RV.out _) (by have h := one_C v9 (cutC row (rd_T39 l i)); rw [HX.out] at h; exact h) (fun x cs h => by rw [k39_open h]; exact k39_mkM _ _ _ x) (fun _ h => h.elim) (fun _ _ => trivial) (HB.out.alloc HB.out.size _) (by have := HB.out.size; simp; omega) (by rw [HLN.out]; have h1 := HN.out; have h2 := PI.out; omega) ?_; intro v2 w2 hR2 hb2 hg2 hat2; have R2 := Lib.hid hR2; have HB2 := Lib.hid hb2; clear hR2 hb2 hg2 hat2)
                | (fail))
              go_roundw
              case rel => exact ⟨i + 1, by first | rfl | go_num, ⟨by have := PI.out; omega, by have := PI.out; omega⟩, HJ2, Lib.hid ⟨by rw [HTK.out]; exact R2.out, HB2.out⟩⟩
              case measure => have := PI.out; simp [intOf]; omega
        · have hnl : decide (i < (l.length : Int)) = false := decide_eq_false hlt
          have ei : i = (l.length : Int) := by omega
          subst ei
          have HST := Lib.hid (cutT_all HJ.out)
          have HFR := Lib.hid HRB.out
          clear i0 i1 hlt HRB
          go_wp2
          go_ret2
          unfold CutTo
          rw [HE.out.1, HE.out.2, HST.out]
          exact ⟨_, rfl, HFR.out.1, HFR.out.2⟩
  · have HE := Lib.hid (And.intro (show cutLL l row = [] by unfold cutLL; rw [if_neg (by rw [he]; decide)]) (show cutEE l row = 260 by unfold cutEE; rw [if_neg (by rw [he]; decide)]))
    have HCH := Lib.hid (HCHK.out 260 he)
    clear he
    go_enter Try.func22, Try.ntmps22
    go_wp2_with (first
      | (go_at_call 16; (with_reducible refine HCH.out.mono ?_); rintro e_ W_ ⟨rfl, hb⟩; have HB := Lib.hid hb; clear hb)
      | (fail))
    go_ret2
    unfold CutTo
    rw [HE.out.1, HE.out.2]
    exact ⟨.slice none 0 0, rfl, Kd.R_nil _ _ _ _ _, HB.out⟩
end Go.Proofs.Ytbakmkoppieelaa.PLinearChecks

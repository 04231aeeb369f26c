/- What is proved: the reference's small functions on states of a key and on orders; the conditions stand in the theorems. -/
import Derived.Test.YtbakmkoppieelaaLHld
import Derived.Test.YtbakmkoppieelaaLKep
namespace Go.Proofs.Ytbakmkoppieelaa.PLinearChecks
open Go.RowKit Go.Proofs.YtbakmkoppieelaaW.PrintWords Go.Proofs.YtbakmkoppieelaaW.PrintLast Go.Proofs.YtbakmkoppieelaaW.PrintMore
set_option linter.unusedVariables false
set_option linter.unusedSimpArgs false
def setL (cs : Array Value) : Nat → List Value → Array Value
  | _, [] => cs
  | o, v :: r => setL (cs.setIfInBounds o v) (o + 1) r
theorem setCells_blk {g : Nat} {t : TypeId} : ∀ (vs : List Value) (o : Nat) (w : World) (cs : Array Value), w.heap[g]? = some (.cells cs t (0, 0)) → (w.setCells g o vs).heap[g]? = some (.cells (setL cs o vs) t (0, 0)) ∧ w.grownBy (w.setCells g o vs) (some g)
  | [], _, w, _, h => ⟨h, ⟨rfl, rfl, rfl, Nat.le_refl _, fun _ _ _ => rfl⟩⟩
  | v :: r, o, w, cs, h => by
    obtain ⟨h1, h2⟩ := setCells_blk r (o + 1) (w.setCell ⟨g, o, none⟩ v) _ (blk_set h o v)
    refine ⟨h1, h2.os, h2.tape, h2.output, ?_, fun k hk hne => ?_⟩
    · have h3 := h2.size
      have h4 : (w.setCell ⟨g, o, none⟩ v).heap.size = w.heap.size := by simp [World.setCell]
      rw [h4] at h3
      exact h3
    · have h4 : (w.setCell ⟨g, o, none⟩ v).heap.size = w.heap.size := by simp [World.setCell]
      exact (h2.block k (by rw [h4]; exact hk) hne).trans (Below.heap_setCell w _ v k (fun e => hne (by rw [e])))
theorem store_mid_event {P : Program} {ops : Array Oper} {rest : List Oper} {o : Oper} {a : Act} {w : World} {Q : Exit → Act → World → Prop} (hgd : o.guard = none) (ty : TypeId) (x y : Operand) (ho : o.op = .store ty x y)
    (g i : Nat) (cells : Array Value) (hx : a.eval x = .pointer (some ⟨g, i, none⟩)) (hy : a.eval y = .agg cells) (t : TypeId) (cs : Array Value) (hg : w.heap[g]? = some (.cells cs t (0, 0))) (hl : i + cells.size ≤ cs.size)
    (hi : (P.info? ty).map (·.size) = some cells.size) (h1 : cells.all (·.oneCell') = true)
    (h : ∀ w', w'.heap[g]? = some (.cells (setL cs i cells.toList) t (0, 0)) → w.grownBy w' (some g) → wpList P ops Q rest (a.put o.dst undef) w') : wpList P ops Q (o :: rest) a w := by
  obtain ⟨h2, h3⟩ := setCells_blk cells.toList i w cs hg
  exact wpList_store_mid hgd ty x y ho g i cells hx hy (fun j hj => ⟨by rw [blk_cell hg, Option.isSome_iff_exists]; exact ⟨cs[i + j], by simp⟩, blk_frozen hg _⟩) hi h1 (h _ h2 h3)
theorem set_mid {p m q : List Value} {o j : Nat} (hp : p.length = o) (v : Value) (hj : j < m.length) : (p ++ m ++ q).toArray.setIfInBounds (o + j) v = (p ++ m.set j v ++ q).toArray := by
  subst hp
  rw [List.setIfInBounds_toArray, List.append_assoc, List.set_append_right _ _ (by omega), Nat.add_sub_cancel_left, List.set_append_left _ _ hj, List.append_assoc]
def setLs (m : List Value) : Nat → List Value → List Value
  | _, [] => m
  | j, v :: r => setLs (m.set j v) (j + 1) r
theorem setL_mid {p q : List Value} {o : Nat} (hp : p.length = o) : ∀ (vs m : List Value) (j : Nat), j + vs.length ≤ m.length → setL (p ++ m ++ q).toArray (o + j) vs = (p ++ setLs m j vs ++ q).toArray
  | [], _, _, _ => rfl
  | v :: r, m, j, h => by
    have h2 : j + (r.length + 1) ≤ m.length := h
    rw [setL, set_mid hp v (by omega), show o + j + 1 = o + (j + 1) by omega, setL_mid hp r (m.set j v) (j + 1) (by rw [List.length_set]; omega), setLs]
theorem elem_mid_event {P : Program} {ops : Array Oper} {rest : List Oper} {o : Oper} {a : Act} {w : World} {Q : Exit → Act → World → Prop} (hgd : o.guard = none) (ty : TypeId) (x y : Operand) (ho : o.op = .store ty x y)
    (g b j : Nat) (cells : Array Value) (hx : a.eval x = .pointer (some ⟨g, b + j, none⟩)) (hy : a.eval y = .agg cells) (t : TypeId) (p m q : List Value) (hp : p.length = b) (hg : w.heap[g]? = some (.cells (p ++ m ++ q).toArray t (0, 0))) (hj : j + cells.size ≤ m.length)
    (hi : (P.info? ty).map (·.size) = some cells.size) (h1 : cells.all (·.oneCell') = true)
    (h : ∀ w', w'.heap[g]? = some (.cells (p ++ setLs m j cells.toList ++ q).toArray t (0, 0)) → w.grownBy w' (some g) → wpList P ops Q rest (a.put o.dst undef) w') : wpList P ops Q (o :: rest) a w :=
  store_mid_event hgd ty x y ho g (b + j) cells hx hy t _ hg (by simp; omega) hi h1 (fun w' h2 h3 => h w' (by rw [h2, setL_mid hp _ _ _ (by simpa using hj)]) h3)
/-! #### the reference's state of a key -/
structure SS where
  k : ByteArray
  t : Bool
  v : ByteArray
  lo : Int
  fr : Int
def takF (s : SS) (n : Int) : SS × Bool := if n = 0 then (⟨s.k, s.t, s.v, s.lo, wrap64 (s.fr + 1)⟩, true) else if wrap64 (n - s.lo) ≤ s.fr then (s, false) else (⟨s.k, s.t, s.v, n, 0⟩, true)
def seeF (s : SS) (n : Int) : SS × Bool := if s.t = false then (s, false) else if s.fr = 0 ∧ ¬ n = s.lo then (s, false) else if wrap64 (n - s.lo) < s.fr then (s, false) else (⟨s.k, s.t, s.v, n, 0⟩, true)
def putF (s : SS) (v : ByteArray) (n : Int) : SS × Bool := (⟨(takF s n).1.k, true, v, (takF s n).1.lo, (takF s n).1.fr⟩, (takF s n).2)
def goeF (s : SS) (n : Int) : SS × Bool := if s.t = false then (s, false) else (⟨(takF s n).1.k, false, ⟨#[]⟩, (takF s n).1.lo, (takF s n).1.fr⟩, (takF s n).2)
def verF (s : SS) (n : Int) : SS × Bool := if n = 0 then (s, !s.t) else seeF s n
def ssA (s : SS) : Value := .agg #[.string s.k, .bool s.t, .string s.v, .int .i64 s.lo, .int .i64 s.fr]
theorem tup_eq2 {k : ByteArray} {t : Bool} {v : ByteArray} {lo fr : Int} {b : Bool} {q : SS × Bool} (h : ((⟨k, t, v, lo, fr⟩ : SS), b) = q) : Ending.returned (.tuple #[.agg #[.string k, .bool t, .string v, .int .i64 lo, .int .i64 fr], .bool b]) = .returned (.tuple #[ssA q.1, .bool q.2]) := by rw [← h]; rfl
theorem alloc2_new (w : World) (o o2 : Obj) : ((w.alloc o).alloc o2).heap[w.heap.size + 1]? = some o2 := by
  have h := heap_alloc_new (w.alloc o) o2
  rwa [show (w.alloc o).heap.size = w.heap.size + 1 by simp] at h
set_option maxRecDepth 100000 in
set_option maxHeartbeats 8000000 in
theorem takes_any (k : ByteArray) (t : Bool) (v : ByteArray) (lo fr : Int) (n : Int) (w : World) : Calls Try.prog 157 #[.agg #[.string k, .bool t, .string v, .int .i64 lo, .int .i64 fr], .int .i64 n] w fun e w' => e = .returned (.tuple #[ssA (takF ⟨k, t, v, lo, fr⟩ n).1, .bool (takF ⟨k, t, v, lo, fr⟩ n).2]) ∧ Below w.heap.size w w' := by
  have hu := Try.underlying177
  go_enter Try.func157, Try.ntmps157
  go_wp2_with (fail)
  all_goals (refine bodyPost_ret (results_ct rfl _ _ (w.heap.size + 1) 177 _ (0, 0) _ rfl (alloc2_new _ _ _) Try.underlying177 rfl (by kernel_rfl)) rfl ⟨tup_eq2 ?_, by repeat (first | exact Below.refl _ _ | apply below_alloc | apply pw_below_drewN | apply below_drew1 | exact (Below.refl _ _).alloc (Nat.le_refl _) _)⟩; first | rfl | (unfold takF; simp_all <;> first | omega | grind) | (unfold takF wrap64; simp_all))
set_option maxRecDepth 100000 in
set_option maxHeartbeats 8000000 in
theorem seen_any (k : ByteArray) (t : Bool) (v : ByteArray) (lo fr : Int) (n : Int) (w : World) : Calls Try.prog 126 #[.agg #[.string k, .bool t, .string v, .int .i64 lo, .int .i64 fr], .int .i64 n] w fun e w' => e = .returned (.tuple #[ssA (seeF ⟨k, t, v, lo, fr⟩ n).1, .bool (seeF ⟨k, t, v, lo, fr⟩ n).2]) ∧ Below w.heap.size w w' := by
  have hu := Try.underlying177
  go_enter Try.func126, Try.ntmps126
  go_wp2_with (fail)
  all_goals (refine bodyPost_ret (results_ct rfl _ _ (w.heap.size + 1) 177 _ (0, 0) _ rfl (alloc2_new _ _ _) Try.underlying177 rfl (by kernel_rfl)) rfl ⟨tup_eq2 ?_, by repeat (first | exact Below.refl _ _ | apply below_alloc | apply pw_below_drewN | apply below_drew1 | exact (Below.refl _ _).alloc (Nat.le_refl _) _)⟩; first | rfl | (unfold seeF; simp_all <;> first | omega | grind) | (unfold seeF wrap64; simp_all))
set_option maxRecDepth 100000 in
set_option maxHeartbeats 8000000 in
theorem puts_any (k : ByteArray) (t : Bool) (v : ByteArray) (lo fr : Int) (x : ByteArray) (n : Int) (w : World) : Calls Try.prog 129 #[.agg #[.string k, .bool t, .string v, .int .i64 lo, .int .i64 fr], .string x, .int .i64 n] w fun e w' => e = .returned (.tuple #[ssA (putF ⟨k, t, v, lo, fr⟩ x n).1, .bool (putF ⟨k, t, v, lo, fr⟩ x n).2]) ∧ Below w.heap.size w w' := by
  have hu := Try.underlying177
  have HB := Lib.hid (Below.refl w.heap.size w)
  go_enter Try.func129, Try.ntmps129
  go_wp2_with (first
    | ((with_reducible refine gate_dst (N := 3) rfl ?_); refine box_event rfl (N := 3) rfl (cs := #[.string k, .bool t, .string v, .int .i64 lo, .int .i64 fr]) (t := 177) (by first | (go_simp; done) | (go_simp; rfl)) ?_; intro g2 e2 w2 h2 b2; have L2 := Lib.hid (Nat.le_trans HB.out.size (Nat.le_of_eq e2.symm)); replace HB := Lib.hid (below_step HB.out b2); have B2 := Lib.hid h2; clear h2 b2 e2)
    | ((with_reducible refine gate_dst (N := 6) rfl ?_); refine box_event rfl (N := 6) rfl (cs := #[.string ⟨#[]⟩, .bool false, .string ⟨#[]⟩, .int .i64 0, .int .i64 0]) (t := 177) (by first | (go_simp; done) | (go_simp; rfl)) ?_; intro g4 e4 w4 h4 b4; have L4 := Lib.hid (Nat.le_trans HB.out.size (Nat.le_of_eq e4.symm)); have N24 := Lib.hid (Nat.ne_of_lt (Nat.lt_of_lt_of_eq (blk_lt B2.out) e4.symm)); have N42 := Lib.hid N24.out.symm; replace B2 := Lib.hid (blk_below B2.out b4); replace HB := Lib.hid (below_step HB.out b4); have B4 := Lib.hid h4; clear h4 b4 e4)
    | ((with_reducible refine gate_dst (N := 10) rfl ?_); refine wpList_load_row rfl 177 (.tmp 3) rfl g2 rfl 177 _ (0, 0) _ B2.out Try.underlying177 rfl (by kernel_rfl) ?_)
    | (go_at_call 157; (with_reducible refine (takes_any _ _ _ _ _ _ _).mono ?_); rintro e_ W_ ⟨rfl, hb⟩; replace B2 := Lib.hid (blk_below B2.out hb); replace B4 := Lib.hid (blk_below B4.out hb); replace HB := Lib.hid (below_step HB.out hb); clear hb)
    | ((with_reducible refine gate_store (t := 177) (p := 3) rfl ?_); refine store_row_event rfl 177 (.tmp 3) (.tmp 13) rfl g2 _ rfl rfl 177 _ B2.out (by kernel_rfl) rfl (by simp [Value.oneCell']) ?_; intro v132 h_ q_; replace B4 := Lib.hid (blk_grown B4.out q_ (by intro e_; injection e_ with e_; exact N42.out e_)); replace HB := Lib.hid (below_of_grown HB.out q_ L2.out HB.out.size); replace B2 := Lib.hid h_; clear h_ q_)
    | ((with_reducible refine gate_store (t := 4) (p := 16) rfl ?_); refine store_cell_event rfl 4 (.tmp 16) _ rfl g2 1 _ rfl rfl 177 _ B2.out (by show 1 < 5; decide) (by kernel_rfl) rfl rfl ?_; intro v16 h_ q_; replace B4 := Lib.hid (blk_grown B4.out q_ (by intro e_; injection e_ with e_; exact N42.out e_)); replace HB := Lib.hid (below_of_grown HB.out q_ L2.out HB.out.size); replace B2 := Lib.hid h_; clear h_ q_)
    | ((with_reducible refine gate_store (t := 9) (p := 17) rfl ?_); refine store_cell_event rfl 9 (.tmp 17) _ rfl g2 2 _ rfl rfl 177 _ B2.out (by show 2 < 5; decide) (by kernel_rfl) rfl rfl ?_; intro v17 h_ q_; replace B4 := Lib.hid (blk_grown B4.out q_ (by intro e_; injection e_ with e_; exact N42.out e_)); replace HB := Lib.hid (below_of_grown HB.out q_ L2.out HB.out.size); replace B2 := Lib.hid h_; clear h_ q_)
    | ((with_reducible refine gate_dst (N := 18) rfl ?_); refine wpList_load_row rfl 177 (.tmp 3) rfl g2 rfl 177 _ (0, 0) _ B2.out Try.underlying177 rfl (by kernel_rfl) ?_)
    | ((with_reducible refine gate_store (t := 177) (p := 6) rfl ?_); refine store_row_event rfl 177 (.tmp 6) (.tmp 18) rfl g4 _ rfl rfl 177 _ B4.out (by kernel_rfl) rfl (by simp [Value.oneCell']) ?_; intro v184 h_ q_; replace B2 := Lib.hid (blk_grown B2.out q_ (by intro e_; injection e_ with e_; exact N24.out e_)); replace HB := Lib.hid (below_of_grown HB.out q_ L4.out HB.out.size); replace B4 := Lib.hid h_; clear h_ q_)
    | (fail))
  all_goals (refine bodyPost_ret (results_ct rfl _ _ g4 177 _ (0, 0) _ rfl B4.out Try.underlying177 rfl (by kernel_rfl)) rfl ⟨tup_eq2 ?_, HB.out⟩; first | rfl | (rfl))
set_option maxRecDepth 100000 in
set_option maxHeartbeats 8000000 in
theorem goes_any (k : ByteArray) (t : Bool) (v : ByteArray) (lo fr : Int) (n : Int) (w : World) : Calls Try.prog 128 #[.agg #[.string k, .bool t, .string v, .int .i64 lo, .int .i64 fr], .int .i64 n] w fun e w' => e = .returned (.tuple #[ssA (goeF ⟨k, t, v, lo, fr⟩ n).1, .bool (goeF ⟨k, t, v, lo, fr⟩ n).2]) ∧ Below w.heap.size w w' := by
  have hu := Try.underlying177
  have HB := Lib.hid (Below.refl w.heap.size w)
  go_enter Try.func128, Try.ntmps128
  go_wp2_with (first
    | ((with_reducible refine gate_dst (N := 2) rfl ?_); refine box_event rfl (N := 2) rfl (cs := #[.string k, .bool t, .string v, .int .i64 lo, .int .i64 fr]) (t := 177) (by first | (go_simp; done) | (go_simp; rfl)) ?_; intro g2 e2 w2 h2 b2; have L2 := Lib.hid (Nat.le_trans HB.out.size (Nat.le_of_eq e2.symm)); replace HB := Lib.hid (below_step HB.out b2); have B2 := Lib.hid h2; clear h2 b2 e2)
    | ((with_reducible refine gate_dst (N := 4) rfl ?_); refine box_event rfl (N := 4) rfl (cs := #[.string ⟨#[]⟩, .bool false, .string ⟨#[]⟩, .int .i64 0, .int .i64 0]) (t := 177) (by first | (go_simp; done) | (go_simp; rfl)) ?_; intro g4 e4 w4 h4 b4; have L4 := Lib.hid (Nat.le_trans HB.out.size (Nat.le_of_eq e4.symm)); have N24 := Lib.hid (Nat.ne_of_lt (Nat.lt_of_lt_of_eq (blk_lt B2.out) e4.symm)); have N42 := Lib.hid N24.out.symm; replace B2 := Lib.hid (blk_below B2.out b4); replace HB := Lib.hid (below_step HB.out b4); have B4 := Lib.hid h4; clear h4 b4 e4)
    | ((with_reducible refine gate_dst (N := 8) rfl ?_); refine wpList_load_cell rfl 4 (.tmp 7) rfl g2 1 rfl _ _ B2.out _ rfl _ Try.underlying4 rfl ?_)
    | ((with_reducible refine gate_dst (N := 10) rfl ?_); refine wpList_load_row rfl 177 (.tmp 2) rfl g2 rfl 177 _ (0, 0) _ B2.out Try.underlying177 rfl (by kernel_rfl) ?_)
    | ((with_reducible refine gate_store (t := 177) (p := 4) rfl ?_); refine store_row_event rfl 177 (.tmp 4) (.tmp 10) rfl g4 _ rfl rfl 177 _ B4.out (by kernel_rfl) rfl (by simp [Value.oneCell']) ?_; intro v104 h_ q_; replace B2 := Lib.hid (blk_grown B2.out q_ (by intro e_; injection e_ with e_; exact N24.out e_)); replace HB := Lib.hid (below_of_grown HB.out q_ L4.out HB.out.size); replace B4 := Lib.hid h_; clear h_ q_)
    | ((with_reducible refine gate_dst (N := 12) rfl ?_); refine wpList_load_row rfl 177 (.tmp 2) rfl g2 rfl 177 _ (0, 0) _ B2.out Try.underlying177 rfl (by kernel_rfl) ?_)
    | (go_at_call 157; (with_reducible refine (takes_any _ _ _ _ _ _ _).mono ?_); rintro e_ W_ ⟨rfl, hb⟩; replace B2 := Lib.hid (blk_below B2.out hb); replace B4 := Lib.hid (blk_below B4.out hb); replace HB := Lib.hid (below_step HB.out hb); clear hb)
    | ((with_reducible refine gate_store (t := 177) (p := 2) rfl ?_); refine store_row_event rfl 177 (.tmp 2) (.tmp 15) rfl g2 _ rfl rfl 177 _ B2.out (by kernel_rfl) rfl (by simp [Value.oneCell']) ?_; intro v152 h_ q_; replace B4 := Lib.hid (blk_grown B4.out q_ (by intro e_; injection e_ with e_; exact N42.out e_)); replace HB := Lib.hid (below_of_grown HB.out q_ L2.out HB.out.size); replace B2 := Lib.hid h_; clear h_ q_)
    | ((with_reducible refine gate_store (t := 4) (p := 17) rfl ?_); refine store_cell_event rfl 4 (.tmp 17) _ rfl g2 1 _ rfl rfl 177 _ B2.out (by show 1 < 5; decide) (by kernel_rfl) rfl rfl ?_; intro v17 h_ q_; replace B4 := Lib.hid (blk_grown B4.out q_ (by intro e_; injection e_ with e_; exact N42.out e_)); replace HB := Lib.hid (below_of_grown HB.out q_ L2.out HB.out.size); replace B2 := Lib.hid h_; clear h_ q_)
    | ((with_reducible refine gate_store (t := 9) (p := 18) rfl ?_); refine store_cell_event rfl 9 (.tmp 18) _ rfl g2 2 _ rfl rfl 177 _ B2.out (by show 2 < 5; decide) (by kernel_rfl) rfl rfl ?_; intro v18 h_ q_; replace B4 := Lib.hid (blk_grown B4.out q_ (by intro e_; injection e_ with e_; exact N42.out e_)); replace HB := Lib.hid (below_of_grown HB.out q_ L2.out HB.out.size); replace B2 := Lib.hid h_; clear h_ q_)
    | ((with_reducible refine gate_dst (N := 19) rfl ?_); refine wpList_load_row rfl 177 (.tmp 2) rfl g2 rfl 177 _ (0, 0) _ B2.out Try.underlying177 rfl (by kernel_rfl) ?_)
    | ((with_reducible refine gate_store (t := 177) (p := 4) rfl ?_); refine store_row_event rfl 177 (.tmp 4) (.tmp 19) rfl g4 _ rfl rfl 177 _ B4.out (by kernel_rfl) rfl (by simp [Value.oneCell']) ?_; intro v194 h_ q_; replace B2 := Lib.hid (blk_grown B2.out q_ (by intro e_; injection e_ with e_; exact N24.out e_)); replace HB := Lib.hid (below_of_grown HB.out q_ L4.out HB.out.size); replace B4 := Lib.hid h_; clear h_ q_)
    | (fail))
  all_goals (refine bodyPost_ret (results_ct rfl _ _ g4 177 _ (0, 0) _ rfl B4.out Try.underlying177 rfl (by kernel_rfl)) rfl ⟨tup_eq2 ?_, HB.out⟩; first | rfl | ((unfold goeF; simp_all)))
set_option maxRecDepth 100000 in
set_option maxHeartbeats 8000000 in
theorem version_any (k : ByteArray) (t : Bool) (v : ByteArray) (lo fr : Int) (n : Int) (w : World) : Calls Try.prog 127 #[.agg #[.string k, .bool t, .string v, .int .i64 lo, .int .i64 fr], .int .i64 n] w fun e w' => e = .returned (.tuple #[ssA (verF ⟨k, t, v, lo, fr⟩ n).1, .bool (verF ⟨k, t, v, lo, fr⟩ n).2]) ∧ Below w.heap.size w w' := by
  have hu := Try.underlying177
  by_cases hn : n = 0
  · subst hn
    go_enter Try.func127, Try.ntmps127
    go_wp2_with (fail)
    go_region
    all_goals go_wp2
    all_goals (refine bodyPost_ret (results_ct rfl _ _ (w.heap.size + 1) 177 _ (0, 0) _ rfl (alloc2_new _ _ _) Try.underlying177 rfl (by kernel_rfl)) rfl ⟨tup_eq2 ?_, by repeat (first | exact Below.refl _ _ | apply below_alloc | apply pw_below_drewN | apply below_drew1 | exact (Below.refl _ _).alloc (Nat.le_refl _) _)⟩; first | rfl)
  · have hn2 : (n == 0) = false := by simpa using hn
    have hv : verF ⟨k, t, v, lo, fr⟩ n = seeF ⟨k, t, v, lo, fr⟩ n := if_neg hn
    rw [hv]
    clear hv
    have HB := Lib.hid (Below.refl w.heap.size w)
    go_enter Try.func127, Try.ntmps127
    go_wp2_with (first
      | ((with_reducible refine gate_dst (N := 2) rfl ?_); refine box_event rfl (N := 2) rfl (cs := #[.string k, .bool t, .string v, .int .i64 lo, .int .i64 fr]) (t := 177) (by first | (go_simp; done) | (go_simp; rfl)) ?_; intro g2 e2 w2 h2 b2; have L2 := Lib.hid (Nat.le_trans HB.out.size (Nat.le_of_eq e2.symm)); replace HB := Lib.hid (below_step HB.out b2); have B2 := Lib.hid h2; clear h2 b2 e2)
      | ((with_reducible refine gate_dst (N := 4) rfl ?_); refine box_event rfl (N := 4) rfl (cs := #[.string ⟨#[]⟩, .bool false, .string ⟨#[]⟩, .int .i64 0, .int .i64 0]) (t := 177) (by first | (go_simp; done) | (go_simp; rfl)) ?_; intro g4 e4 w4 h4 b4; have L4 := Lib.hid (Nat.le_trans HB.out.size (Nat.le_of_eq e4.symm)); have N24 := Lib.hid (Nat.ne_of_lt (Nat.lt_of_lt_of_eq (blk_lt B2.out) e4.symm)); have N42 := Lib.hid N24.out.symm; replace B2 := Lib.hid (blk_below B2.out b4); replace HB := Lib.hid (below_step HB.out b4); have B4 := Lib.hid h4; clear h4 b4 e4)
      | ((with_reducible refine gate_dst (N := 12) rfl ?_); refine wpList_load_row rfl 177 (.tmp 2) rfl g2 rfl 177 _ (0, 0) _ B2.out Try.underlying177 rfl (by kernel_rfl) ?_)
      | (go_at_call 126; (with_reducible refine (seen_any _ _ _ _ _ _ _).mono ?_); rintro e_ W_ ⟨rfl, hb⟩; replace B2 := Lib.hid (blk_below B2.out hb); replace B4 := Lib.hid (blk_below B4.out hb); replace HB := Lib.hid (below_step HB.out hb); clear hb)
      | ((with_reducible refine gate_store (t := 177) (p := 4) rfl ?_); refine store_row_event rfl 177 (.tmp 4) (.tmp 15) rfl g4 _ rfl rfl 177 _ B4.out (by kernel_rfl) rfl (by simp [Value.oneCell']) ?_; intro v154 h_ q_; replace B2 := Lib.hid (blk_grown B2.out q_ (by intro e_; injection e_ with e_; exact N24.out e_)); replace HB := Lib.hid (below_of_grown HB.out q_ L4.out HB.out.size); replace B4 := Lib.hid h_; clear h_ q_)
      | (fail))
    exact bodyPost_ret (results_ct rfl _ _ g4 177 _ (0, 0) _ rfl B4.out Try.underlying177 rfl (by kernel_rfl)) rfl ⟨rfl, HB.out⟩
theorem seen_int {xs : List Int} {j : Int} {i : Int} (h0 : 0 ≤ j) (h1 : j < xs.length) : (xs.take (j + 1).toNat).contains i = ((xs.take j.toNat).contains i || (ix xs j == i)) := by
  have hj : j.toNat < xs.length := by omega
  unfold ix
  rw [show (j + 1).toNat = j.toNat + 1 by omega, List.take_succ_eq_append_getElem hj, List.getD_eq_getElem?_getD, List.getElem?_eq_getElem hj]
  rw [Bool.eq_iff_iff]
  simp only [List.contains_iff_mem, List.mem_append, List.mem_singleton, Bool.or_eq_true, beq_iff_eq, Option.getD_some]
  constructor
  · rintro (h | h)
    · exact Or.inl h
    · exact Or.inr h.symm
  · rintro (h | h)
    · exact Or.inl h
    · exact Or.inr h.symm
theorem mem_int {xs : List Int} {j : Int} {i : Int} (h0 : 0 ≤ j) (h1 : j < xs.length) (h : (ix xs j == i) = true) : xs.contains i = true := by
  rw [List.contains_iff_mem]
  have h2 := beq_iff_eq.mp h
  rw [← h2]
  unfold ix
  rw [List.getD_eq_getElem?_getD, List.getElem?_eq_getElem (show j.toNat < xs.length by omega)]
  exact List.getElem_mem _
/-- Is a number in an order? -/
def hasI (xs : List Int) (i : Int) : Bool := xs.contains i
set_option maxRecDepth 100000 in
set_option maxHeartbeats 8000000 in
theorem has_any (w : World) (A : Option Addr) (c : Nat) (xs : List Int) (i : Int) (hx : Kd.C (Kd.int .i64) w A xs.length xs) (hn : xs.length ≤ 100000000000000) :
    Calls Try.prog 54 #[.slice A xs.length c, .int .i64 i] w fun e w' => e = .returned (.bool (hasI xs i)) ∧ w = w' := by
  have HX := Lib.hid hx
  have HN := Lib.hid hn
  clear hx
  go_enter Try.func54, Try.ntmps54
  go_wp2
  go_loop [5] (fun v5 => ∃ k : Int, v5 = .int .i64 k ∧ (0 ≤ k ∧ k ≤ (xs.length : Int)) ∧ RowKit.Hid ((xs.take k.toNat).contains i = false)) (fun v5 => ((xs.length : Int) - intOf v5).toNat)
  case atStart => exact ⟨0, rfl, ⟨by omega, by omega⟩, Lib.hid rfl⟩
  case round =>
    obtain ⟨k, rfl, ⟨k0, k1⟩, HS⟩ := hrel
    by_cases hlt : k < (xs.length : Int)
    · have c1 : decide (k < (xs.length : Int)) = true := decide_eq_true hlt
      have PK := Lib.hid (show 0 ≤ k ∧ k < (xs.length : Int) by omega)
      have pK := eq_true k0
      have qK := eq_true hlt
      have wi : wrap64 (k + 1) = k + 1 := by have h2 := HN.out; unfold wrap64; omega
      have wi2 : IntKind.i64.wrap (k + 1) = k + 1 := (i64_w _).trans wi
      obtain ⟨ad, eA, kx⟩ := int_at HX.out k k0 hlt
      cases eA
      have HS2 := Lib.hid (seen_int (i := i) k0 hlt)
      have HM := Lib.hid (fun h => mem_int (i := i) k0 hlt h)
      obtain ⟨y, hy⟩ : ∃ y, ix xs k = y := ⟨_, rfl⟩
      rw [hy] at kx HS2 HM
      clear k0 k1 hlt hy
      cases hb : (y == i) with
      | true =>
        have HF := Lib.hid (show hasI xs i = true from HM.out hb)
        go_wp2_with ((fail))
        go_ret
        exact ⟨by rw [HF.out]; rfl, rfl⟩
      | false =>
        have HF := Lib.hid (show (xs.take (k + 1).toNat).contains i = false by rw [HS2.out, HS.out, hb]; rfl)
        go_wp2_with ((fail))
        go_round
        case rel => exact ⟨k + 1, by first | rfl | go_num, ⟨by have := PK.out; omega, by have := PK.out; omega⟩, HF⟩
        case measure => have := PK.out; simp [intOf]; omega
    · have hnl : decide (k < (xs.length : Int)) = false := decide_eq_false hlt
      have ek : k = (xs.length : Int) := by omega
      subst ek
      have HF := Lib.hid (show hasI xs i = false by have h := HS.out; rw [Int.toNat_natCast, List.take_length] at h; exact h)
      clear k0 k1 hlt
      go_wp2
      go_ret
      exact ⟨by rw [HF.out]; rfl, rfl⟩

/-- Is every answered call in an order (of whole numbers)? -/
def whlI (l : List S39) (xs : List Int) : Bool := (List.range l.length).all fun k => !ansB (cl l k) || hasI xs (k : Int)
theorem whlI_no {l : List S39} {xs : List Int} {k : Int} (h0 : 0 ≤ k) (h1 : k < l.length) (ha : ansB (rd_T39 l k) = true) (hh : hasI xs k = false) : whlI l xs = false := by
  rw [Bool.eq_false_iff]
  intro h
  unfold whlI at h
  rw [List.all_eq_true] at h
  have h2 := h k.toNat (List.mem_range.mpr (by omega))
  rw [show ((k.toNat : Nat) : Int) = k by omega, hh, show ansB (cl l k.toNat) = true from ha] at h2
  cases h2
theorem whlI_yes {l : List S39} {xs : List Int} (h : ∀ j : Nat, (j : Int) < l.length → ansB (cl l j) = true → hasI xs (j : Int) = true) : whlI l xs = true := by
  unfold whlI
  rw [List.all_eq_true]
  intro k hk
  cases ha : ansB (cl l k) with
  | false => rfl
  | true => rw [h k (by have := List.mem_range.mp hk; omega) ha]; rfl
set_option maxRecDepth 100000 in
set_option maxHeartbeats 16000000 in
theorem whole_any (w : World) (A Ax : Option Addr) (c cx : Nat) (l : List S39) (xs : List Int) (RANS : ∀ (x : S39) (W : World), Calls Try.prog 44 #[.agg #[.int .i64 x.f0, .int .i64 x.f1, .bool x.f2, .string x.f3, .int .i64 x.f4.f0, .string x.f4.f1, .string x.f4.f2, .int .i64 x.f4.f3, .int .i64 x.f5, .int .i64 x.f6, .int .i64 x.f7.f0, .int .i64 x.f7.f1, .string x.f8.f0, .string x.f8.f1, .int .i64 x.f8.f2, .bool x.f9]] W fun e w' => e = .returned (.bool (ansB x)) ∧ Below W.heap.size W w') (hr : Kd.C k39 w A l.length l) (hc : l.length ≤ c) (hx : Kd.C (Kd.int .i64) w Ax xs.length xs) (hn : l.length ≤ 1000000000000) (hnx : xs.length ≤ 100000000000000) :
    Calls Try.prog 55 #[.slice A l.length c, .slice Ax xs.length cx] w fun e w' => e = .returned (.bool (whlI l xs)) ∧ Below w.heap.size w w' := by
  have HR := Lib.hid hr
  have HX := Lib.hid hx
  have HN := Lib.hid (And.intro hn hnx)
  have RA := Lib.hid RANS
  clear hr hx RANS
  go_enter Try.func55, Try.ntmps55
  go_wp2
  go_loopw [5] (fun v5 wr => ∃ k : Int, v5 = .int .i64 k ∧ (0 ≤ k ∧ k ≤ (l.length : Int)) ∧ RowKit.Hid (∀ j : Nat, (j : Int) < k → ansB (cl l j) = true → hasI xs (j : Int) = true) ∧ RowKit.Hid (Below w.heap.size w wr)) (fun v5 _ => ((l.length : Int) - intOf v5).toNat)
  case atStart => exact ⟨0, rfl, ⟨by omega, by omega⟩, Lib.hid (fun j hj => by omega), Lib.hid (Below.refl _ _)⟩
  case round =>
    obtain ⟨k, rfl, ⟨k0, k1⟩, HJ, HB⟩ := hrel
    by_cases hlt : k < (l.length : Int)
    · have c1 : decide (k < (l.length : Int)) = true := decide_eq_true hlt
      have PK := Lib.hid (show 0 ≤ k ∧ k < (l.length : Int) by omega)
      have pK := eq_true k0
      have qK := eq_true hlt
      have wi : wrap64 (k + 1) = k + 1 := by have h2 := HN.out; unfold wrap64; omega
      have wi2 : IntKind.i64.wrap (k + 1) = k + 1 := (i64_w _).trans wi
      obtain ⟨ad, eA, RK⟩ := row39 (Kd.C_below HR.out HB.out) k k0 hlt
      cases eA
      have RK := Lib.hid RK
      have HA := Lib.hid (fun W => RA.out (rd_T39 l k) W)
      have HH := Lib.hid (fun W (hW : Below w.heap.size w W) => has_any W Ax cx xs k (Kd.C_below HX.out hW) HN.out.2)
      clear k0 k1 hlt
      cases ha : ansB (rd_T39 l k) with
      | false =>
        rw [ha] at HA
        have HJ2 : RowKit.Hid (∀ j : Nat, (j : Int) < k + 1 → ansB (cl l j) = true → hasI xs (j : Int) = true) := Lib.hid (fun j hj haj => by
          by_cases e : (j : Int) = k
          · have h : ansB (rd_T39 l (j : Int)) = true := haj
            rw [e, ha] at h
            cases h
          · exact HJ.out j (by omega) haj)
        clear ha
        go_wp2_with (first
          | ((with_reducible refine gate_dst (N := 15) rfl ?_); refine wpList_load_p rfl 39 (.tmp 14) rfl (ad.add (k.toNat * 16)) rfl [.int .i64 (rd_T39 l k).f0, .int .i64 (rd_T39 l k).f1, .bool (rd_T39 l k).f2, .string (rd_T39 l k).f3, .int .i64 (rd_T39 l k).f4.f0, .string (rd_T39 l k).f4.f1, .string (rd_T39 l k).f4.f2, .int .i64 (rd_T39 l k).f4.f3, .int .i64 (rd_T39 l k).f5, .int .i64 (rd_T39 l k).f6, .int .i64 (rd_T39 l k).f7.f0, .int .i64 (rd_T39 l k).f7.f1, .string (rd_T39 l k).f8.f0, .string (rd_T39 l k).f8.f1, .int .i64 (rd_T39 l k).f8.f2, .bool (rd_T39 l k).f9] _ RK.out Try.underlying39 rfl (by kernel_rfl) ?_)
          | (go_at_call 44; (with_reducible refine (HA.out _).mono ?_); rintro e_ W_ ⟨rfl, hb⟩; replace HB := Lib.hid (below_step HB.out hb); clear hb)
          | (fail))
        go_roundw
        case rel => exact ⟨k + 1, by first | rfl | go_num, ⟨by have := PK.out; omega, by have := PK.out; omega⟩, HJ2, HB⟩
        case measure => have := PK.out; simp [intOf]; omega
      | true =>
        rw [ha] at HA
        cases hh : hasI xs k with
        | false =>
          rw [hh] at HH
          have HF := Lib.hid (whlI_no PK.out.1 PK.out.2 ha hh)
          clear ha hh
          go_wp2_with (first
            | ((with_reducible refine gate_dst (N := 15) rfl ?_); refine wpList_load_p rfl 39 (.tmp 14) rfl (ad.add (k.toNat * 16)) rfl [.int .i64 (rd_T39 l k).f0, .int .i64 (rd_T39 l k).f1, .bool (rd_T39 l k).f2, .string (rd_T39 l k).f3, .int .i64 (rd_T39 l k).f4.f0, .string (rd_T39 l k).f4.f1, .string (rd_T39 l k).f4.f2, .int .i64 (rd_T39 l k).f4.f3, .int .i64 (rd_T39 l k).f5, .int .i64 (rd_T39 l k).f6, .int .i64 (rd_T39 l k).f7.f0, .int .i64 (rd_T39 l k).f7.f1, .string (rd_T39 l k).f8.f0, .string (rd_T39 l k).f8.f1, .int .i64 (rd_T39 l k).f8.f2, .bool (rd_T39 l k).f9] _ RK.out Try.underlying39 rfl (by kernel_rfl) ?_)
            | (go_at_call 44; (with_reducible refine (HA.out _).mono ?_); rintro e_ W_ ⟨rfl, hb⟩; replace HB := Lib.hid (below_step HB.out hb); clear hb)
            | (go_at_call 54; (with_reducible refine (HH.out _ HB.out).mono ?_); rintro e_ W2_ ⟨rfl, rfl⟩)
            | (fail))
          go_ret
          exact ⟨by rw [HF.out]; rfl, HB.out⟩
        | true =>
          rw [hh] at HH
          have HJ2 : RowKit.Hid (∀ j : Nat, (j : Int) < k + 1 → ansB (cl l j) = true → hasI xs (j : Int) = true) := Lib.hid (fun j hj haj => by
            by_cases e : (j : Int) = k
            · rw [e]; exact hh
            · exact HJ.out j (by omega) haj)
          clear ha hh
          go_wp2_with (first
            | ((with_reducible refine gate_dst (N := 15) rfl ?_); refine wpList_load_p rfl 39 (.tmp 14) rfl (ad.add (k.toNat * 16)) rfl [.int .i64 (rd_T39 l k).f0, .int .i64 (rd_T39 l k).f1, .bool (rd_T39 l k).f2, .string (rd_T39 l k).f3, .int .i64 (rd_T39 l k).f4.f0, .string (rd_T39 l k).f4.f1, .string (rd_T39 l k).f4.f2, .int .i64 (rd_T39 l k).f4.f3, .int .i64 (rd_T39 l k).f5, .int .i64 (rd_T39 l k).f6, .int .i64 (rd_T39 l k).f7.f0, .int .i64 (rd_T39 l k).f7.f1, .string (rd_T39 l k).f8.f0, .string (rd_T39 l k).f8.f1, .int .i64 (rd_T39 l k).f8.f2, .bool (rd_T39 l k).f9] _ RK.out Try.underlying39 rfl (by kernel_rfl) ?_)
            | (go_at_call 44; (with_reducible refine (HA.out _).mono ?_); rintro e_ W_ ⟨rfl, hb⟩; replace HB := Lib.hid (below_step HB.out hb); clear hb)
            | (go_at_call 54; (with_reducible refine (HH.out _ HB.out).mono ?_); rintro e_ W2_ ⟨rfl, rfl⟩)
            | (fail))
          go_roundw
          case rel => exact ⟨k + 1, by first | rfl | go_num, ⟨by have := PK.out; omega, by have := PK.out; omega⟩, HJ2, HB⟩
          case measure => have := PK.out; simp [intOf]; omega
    · have hnl : decide (k < (l.length : Int)) = false := decide_eq_false hlt
      have ek : k = (l.length : Int) := by omega
      subst ek
      have HF := Lib.hid (whlI_yes HJ.out)
      clear k0 k1 hlt
      go_wp2
      go_ret
      exact ⟨by rw [HF.out]; rfl, HB.out⟩
end Go.Proofs.Ytbakmkoppieelaa.PLinearChecks

/- What is proved: words for walks that compare structs; whether an answer may be; no condition. -/
import Derived.Test.YtbakmkoppieelaaLSlA
namespace Go.Proofs.Ytbakmkoppieelaa.PLinearChecks
open Go.RowKit Go.Proofs.YtbakmkoppieelaaW.PrintWords Go.Proofs.YtbakmkoppieelaaW.PrintLast Go.Proofs.YtbakmkoppieelaaW.PrintMore
set_option linter.unusedVariables false
set_option linter.unusedSimpArgs false
section
variable {ops : Array Oper} {rest : List Oper} {o : Oper} {a : Act} {Q : Exit → Act → World → Prop} {w : World}
theorem neq_event {t t2 : TypeId} {x y : Operand} {xs ys : Array Value} {b : Bool} (hgd : o.guard = none) (ho : o.op = .binOp .neq t x y t2) (hx : a.eval x = .agg xs) (hy : a.eval y = .agg ys) (hm : Try.prog.eqGuardType Try.prog.depth t = false) (he : ∀ w, (Op.equalIn 10000 t (.agg xs) (.agg ys)).run Try.prog w = .ok b w)
    (h : wpList Try.prog ops Q rest (a.put o.dst (.bool (!b))) w) : wpList Try.prog ops Q (o :: rest) a w := by
  refine wpList_plain hgd fun K hK => ?_
  unfold Oper.wp execOp
  simp only [ho, hx, hy, Sem.run_bind, run_eqGuard_agg _ _ _ _ _ _ _ hm, run_neq_struct, he, Result.andThen_ok, Sem.run_pure]
  exact hK _ _ h
theorem eql_event {t t2 : TypeId} {x y : Operand} {xs ys : Array Value} {b : Bool} (hgd : o.guard = none) (ho : o.op = .binOp .eql t x y t2) (hx : a.eval x = .agg xs) (hy : a.eval y = .agg ys) (hm : Try.prog.eqGuardType Try.prog.depth t = false) (he : ∀ w, (Op.equalIn 10000 t (.agg xs) (.agg ys)).run Try.prog w = .ok b w)
    (h : wpList Try.prog ops Q rest (a.put o.dst (.bool b)) w) : wpList Try.prog ops Q (o :: rest) a w := by
  refine wpList_plain hgd fun K hK => ?_
  unfold Oper.wp execOp
  simp only [ho, hx, hy, Sem.run_bind, run_eqGuard_agg _ _ _ _ _ _ _ hm, run_eql_struct, he, Result.andThen_ok, Sem.run_pure]
  exact hK _ _ h
theorem neqi_event {x y : Operand} {m n : Int} {b : Bool} {t2 : TypeId} (hgd : o.guard = none) (ho : o.op = .binOp .neq 3 x y t2) (hx : a.eval x = .int .i64 m) (hy : a.eval y = .int .i64 n) (hb : (m != n) = b)
    (h : wpList Try.prog ops Q rest (a.put o.dst (.bool b)) w) : wpList Try.prog ops Q (o :: rest) a w := by
  refine wpList_plain hgd fun K hK => ?_
  have hu := Try.underlying3
  have hrun : (execOp a.eval o).run Try.prog w = .ok (.value (.bool b)) w := by
    unfold execOp
    simp only [ho, hx, hy]
    rw [← hb]
    go_simp
  unfold Oper.wp
  rw [hrun]
  exact hK _ _ h
end
theorem e0_list0 : (⟨#[]⟩ : ByteArray).toList = ([] : List UInt8) := by rw [ByteArray.toList, ByteArray.toList.loop]; rfl
theorem opz_eq {k : Int} {s v : ByteArray} {n : Int} {b : Bool} (h : opZ k s v n = b) (w : World) : (Op.equalIn 10000 32 (.agg #[.int .i64 k, .string s, .string v, .int .i64 n]) (.agg #[.int .i64 0, .string ⟨#[]⟩, .string ⟨#[]⟩, .int .i64 0])).run Try.prog w = .ok b w := by
  have h2 := eqA32 9998 w k 0 s ⟨#[]⟩ v ⟨#[]⟩ n 0
  rw [e0_list0] at h2
  rw [← h]
  exact h2
theorem resz_eq {k n : Int} {b : Bool} (h : resZ k n = b) (w : World) : (Op.equalIn 10000 35 (.agg #[.int .i64 k, .int .i64 n]) (.agg #[.int .i64 0, .int .i64 0])).run Try.prog w = .ok b w := by
  rw [← h]
  exact eqA35 9998 w k 0 n 0
theorem rowz_eq {s v : ByteArray} {n : Int} {b : Bool} (h : rowZ s v n = b) (w : World) : (Op.equalIn 10000 37 (.agg #[.string s, .string v, .int .i64 n]) (.agg #[.string ⟨#[]⟩, .string ⟨#[]⟩, .int .i64 0])).run Try.prog w = .ok b w := by
  have h2 := eqA37 9998 w s ⟨#[]⟩ v ⟨#[]⟩ n 0
  rw [e0_list0] at h2
  rw [← h]
  exact h2
theorem store_row_event {P : Program} {ops : Array Oper} {rest : List Oper} {o : Oper} {a : Act} {w : World} {Q : Exit → Act → World → Prop} (hgd : o.guard = none) (ty : TypeId) (x y : Operand) (ho : o.op = .store ty x y)
    (g : Nat) (cells : Array Value) (hx : a.eval x = .pointer (some ⟨g, 0, none⟩)) (hy : a.eval y = .agg cells)
    (t : TypeId) (old : Array Value) (hg : w.heap[g]? = some (.cells old t (0, 0))) (hi : (P.info? ty).map (·.size) = some cells.size)
    (hold : old.size = cells.size) (h1 : cells.all (·.oneCell') = true)
    (h : ∀ w', w'.heap[g]? = some (.cells cells t (0, 0)) → w.grownBy w' (some g) → wpList P ops Q rest (a.put o.dst undef) w') : wpList P ops Q (o :: rest) a w := by
  refine wpList_store_row hgd ty x y ho g cells hx hy t old hg hi hold h1 (h _ ?_ ⟨rfl, rfl, rfl, by simp [World.setRow], fun k hk hne => ?_⟩)
  · exact setRow_heap w g old cells t (0, 0) hg
  · have hk2 : g ≠ k := fun e => hne (by rw [e])
    simp [World.setRow, Array.getElem?_modify, hk2]
theorem below_of_grown {B : Nat} {a b c : World} {g : Nat} (h : Below B a b) (q : b.grownBy c (some g)) (h0 : B ≤ g) (h1 : B ≤ b.heap.size) : Below B a c := h.grown q h1 (fun k e => by injection e with e; omega)
set_option maxRecDepth 100000 in
set_option maxHeartbeats 16000000 in
theorem res_ax (k : Int) (s v : ByteArray) (n code rv : Int) (b : Bool) (hb : resB k n code rv = b) (w : World) : Calls Try.prog 121 #[.agg #[.int .i64 k, .string s, .string v, .int .i64 n], .agg #[.int .i64 code, .int .i64 rv]] w fun e w' => e = .returned (.bool b) ∧ Below w.heap.size w w' := by
  subst hb
  have hu32 := Try.underlying32
  have hu35 := Try.underlying35
  obtain ⟨b1, hb1⟩ : ∃ q, RowKit.Hid (wiB rv 1 1152921504606846976 = q) := ⟨_, Lib.hid rfl⟩
  obtain ⟨b2, hb2⟩ : ∃ q, RowKit.Hid (wiB rv 0 1152921504606846976 = q) := ⟨_, Lib.hid rfl⟩
  have H1 := Lib.hid (fun W => within_ax rv 1 1152921504606846976 b1 hb1.out W)
  have H2 := Lib.hid (fun W => within_ax rv 0 1152921504606846976 b2 hb2.out W)
  go_enter Try.func121, Try.ntmps121
  go_wp2_with (first
    | (go_at_call 70; (with_reducible refine (H1.out _).mono ?_); rintro e_ W_ ⟨rfl, hd⟩; obtain ⟨nd, rfl⟩ := hd)
    | (go_at_call 70; (with_reducible refine (H2.out _).mono ?_); rintro e_ W_ ⟨rfl, hd⟩; obtain ⟨nd, rfl⟩ := hd)
    | (fail))
  all_goals (go_ret; refine ⟨ret_b ?_, by repeat (first | exact Below.refl _ _ | apply below_alloc | apply pw_below_drewN | apply below_drew1 | exact (Below.refl _ _).alloc (Nat.le_refl _) _)⟩; have q5 := hb1.out; have q6 := hb2.out; clear H1 H2; first | rfl | (unfold resB; simp_all [wiB] <;> first | omega | grind))
set_option maxRecDepth 100000 in
set_option maxHeartbeats 16000000 in
theorem rres_ax (k : Int) (s v : ByteArray) (n code rv : Int) (b : Bool) (hb : resB k n code rv = b) (w : World) : Calls Try.prog 82 #[.agg #[.int .i64 k, .string s, .string v, .int .i64 n], .agg #[.int .i64 code, .int .i64 rv]] w fun e w' => e = .returned (.bool b) ∧ Below w.heap.size w w' := by
  subst hb
  have hu32 := Try.underlying32
  have hu35 := Try.underlying35
  go_enter Try.func82, Try.ntmps82
  go_wp2_with (fail)
  all_goals (go_ret; refine ⟨ret_b ?_, by repeat (first | exact Below.refl _ _ | apply below_alloc | apply pw_below_drewN | apply below_drew1 | exact (Below.refl _ _).alloc (Nat.le_refl _) _)⟩; first | rfl | (unfold resB; simp_all [wiB] <;> first | omega | grind))
/-- What both Checks of an operation answer. -/
def chkF (k : Int) (s v : ByteArray) (n : Int) : Int :=
  if k < 1 ∨ k > 3 then 80 else if usrB s = false then 81 else if (v.size : Int) > 65536 ∨ (k = 2 ∧ ¬ v.toList = ([] : List UInt8)) then 82 else if wiB n 0 1152921504606846976 = false ∨ (¬ k = 3 ∧ ¬ n = 0) then 84 else 0
theorem chk_iff (k : Int) (s v : ByteArray) (n : Int) : chkF k s v n = 0 ↔ opB k s v n = true := by
  unfold chkF opB
  by_cases h1 : k < 1
  · simp [h1, wiB, show ¬ k ≥ 1 by omega]
  by_cases h2 : k > 3
  · simp [h2, wiB, show ¬ k ≤ 3 by omega]
  have h3 : wiB k 1 3 = true := by simp [wiB, show k ≥ 1 by omega, show k ≤ 3 by omega]
  rw [if_neg (by omega), h3]
  cases hu : usrB s
  · simp
  by_cases h4 : (v.size : Int) > 65536 ∨ (k = 2 ∧ ¬ v.toList = ([] : List UInt8))
  · rw [if_pos h4]
    have h5 : (decide ((v.size : Int) > 65536) || (k == 2 && !(v.toList == []))) = true := by
      rcases h4 with h | ⟨h, h'⟩
      · simp [h]
      · subst h; simp [h']
    rw [h5]
    simp
  · rw [if_neg h4]
    have h5 : (decide ((v.size : Int) > 65536) || (k == 2 && !(v.toList == []))) = false := by
      rw [not_or] at h4
      by_cases h : k = 2
      · have h6 : v.toList = [] := Classical.byContradiction fun x => h4.2 ⟨h, x⟩
        subst h
        simp [h6, h4.1]
      · simp [h, h4.1]
    rw [h5]
    by_cases h6 : wiB n 0 1152921504606846976 = true
    · by_cases h7 : k = 3 <;> by_cases h8 : n = 0 <;> simp_all
    · simp_all
/-- Passes over a region that draws its order, with what is alike in all of them left to the lemma. -/
theorem pY {P : Program} {md : Region.Mode} {ops : Array Oper} {Q : Exit → Act → World → Prop} {S : World → Prop} {ds : List Nat} {T : Bool × List (List Nat × List Nat)} {oi : Oper} {v : Value} {fuel : Nat} {l : Array Bool} {a a' : Act} {w : World} (i : Nat) (N : Option Tmp) (l' : Array Bool) (HT : Aside0 (rtab md ops = T))
    (hi : ops[i]? = some oi := by rfl) (hN : oi.dst = N := by rfl) (hc : anyT T l.toList l'.toList i = true := by kernel_rfl) (hQ : ∀ c a w, Q (.panic c) (a.put oi.dst v) w → Q (.panic c) a w := by exact fun _ _ _ h => h)
    (hw : Region.wanted oi (yielded ops a.tmps) = true := by rfl) (hv : ∀ w1, (execOp a.eval oi).run P w1 = .ok (.value v) w1 := by intro w1; go_simp; with_reducible rfl)
    (ha : a.put N v = a' := by simp only [Act.put, List.setIfInBounds_toArray, List.set_cons_zero, List.set_cons_succ, i64_w, i32_w]; rfl) (h : wpAnyLast P md ops Q S ds fuel l' a' w) : wpAnyLast P md ops Q S ds (fuel + 1) l a w :=
  pure_ l' hi hN (any_of HT.out hc) hQ (.inl ⟨hw, hv⟩) ha h
theorem sY {P : Program} {md : Region.Mode} {ops : Array Oper} {Q : Exit → Act → World → Prop} {S : World → Prop} {ds : List Nat} {T : Bool × List (List Nat × List Nat)} {oi : Oper} {fuel : Nat} {l : Array Bool} {a a' : Act} {w : World} (i : Nat) (N : Option Tmp) (l' : Array Bool) (HT : Aside0 (rtab md ops = T))
    (hi : ops[i]? = some oi := by rfl) (hN : oi.dst = N := by rfl) (hc : anyT T l.toList l'.toList i = true := by kernel_rfl) (hQ : ∀ c a w, Q (.panic c) (a.put oi.dst undef) w → Q (.panic c) a w := by exact fun _ _ _ h => h)
    (hw : Region.wanted oi (yielded ops a.tmps) = false := by rfl)
    (ha : a.put N undef = a' := by simp only [Act.put, List.setIfInBounds_toArray, List.set_cons_zero, List.set_cons_succ, i64_w, i32_w]; rfl) (h : wpAnyLast P md ops Q S ds fuel l' a' w) : wpAnyLast P md ops Q S ds (fuel + 1) l a w :=
  pure_ l' hi hN (any_of HT.out hc) hQ (.inr ⟨hw, rfl⟩) ha h
end Go.Proofs.Ytbakmkoppieelaa.PLinearChecks

/- What is proved: words for the walk of the search: rows that are read whole, which calls an order has. -/
import Derived.Test.YtbakmkoppieelaaLSeaK
import Derived.Deep.MidRow
namespace Go.Proofs.Ytbakmkoppieelaa.PLinearChecks
open Go.RowKit Go.Proofs.YtbakmkoppieelaaW.PrintWords Go.Proofs.YtbakmkoppieelaaW.PrintLast Go.Proofs.YtbakmkoppieelaaW.PrintMore
set_option linter.unusedVariables false
set_option linter.unusedSimpArgs false
theorem run_loadAt_p {P : Program} (w : World) (p : Addr) (ty : TypeId) (cs : List Value) (d : TypeDesc) (hc : ∀ j v, cs[j]? = some v → w.cell? (p.add j) = some v)
    (hu : P.underlying ty = some d) (hd : d.isRow = true) (hi : (P.info? ty).map (·.size) = some cs.length) :
    (Instr.loadAt ty (.pointer (some p))).run P w = .ok (.agg cs.toArray) w := by
  have hl : (loadCells p cs.length).run P w = .ok cs.toArray w := run_loadCells_list (P := P) w p cs hc
  have h2 : (loadVar ty p).run P w = .ok (.agg cs.toArray) w := by
    cases hq : P.info? ty with
    | none => simp [hq] at hi
    | some i =>
      have hs : i.size = cs.length := by simpa [hq] using hi
      have hagg : (isAgg ty).run P w = .ok true w := by
        unfold isAgg
        rw [Sem.run_bind, run_underlying hu w]
        cases d <;> simp_all
      simp [loadVar, Sem.run_bind, hagg, sizeOf, typeInfo, hq, hs, hl]
  simp only [Instr.loadAt, Instr.sureAddr, Sem.run_bind, Sem.run_pure, Result.andThen_ok, h2]
theorem exec_load_p {P : Program} {o : Oper} {a : Act} {w : World} (ty : TypeId) (x : Operand) (ho : o.op = .load ty x) (p : Addr) (hx : a.eval x = .pointer (some p)) (cs : List Value) (d : TypeDesc) (hc : ∀ j v, cs[j]? = some v → w.cell? (p.add j) = some v)
    (hu : P.underlying ty = some d) (hd : d.isRow = true) (hi : (P.info? ty).map (·.size) = some cs.length) : (execOp a.eval o).run P w = .ok (.value (.agg cs.toArray)) w := by
  unfold execOp
  simp only [ho, hx, run_loadAt_p w p ty cs d hc hu hd hi, Sem.run_bind, Sem.run_pure, Result.andThen_ok]
theorem wpList_load_p {P : Program} {ops : Array Oper} {rest : List Oper} {o : Oper} {a : Act} {w : World} {Q : Exit → Act → World → Prop} (hgd : o.guard = none) (ty : TypeId) (x : Operand) (ho : o.op = .load ty x) (p : Addr) (hx : a.eval x = .pointer (some p)) (cs : List Value) (d : TypeDesc) (hc : ∀ j v, cs[j]? = some v → w.cell? (p.add j) = some v)
    (hu : P.underlying ty = some d) (hd : d.isRow = true) (hi : (P.info? ty).map (·.size) = some cs.length) (h : wpList P ops Q rest (a.put o.dst (.agg cs.toArray)) w) : wpList P ops Q (o :: rest) a w := by
  refine wpList_plain hgd fun K hK => ?_
  unfold Oper.wp
  rw [exec_load_p ty x ho p hx cs d hc hu hd hi]
  exact hK _ _ h
theorem blk_cells {w : World} {g : Nat} {cs : List Value} {t : TypeId} (h : w.heap[g]? = some (.cells cs.toArray t (0, 0))) : ∀ j v, cs[j]? = some v → w.cell? ((⟨g, 0, none⟩ : Addr).add j) = some v := by
  intro j v hv
  rw [Addr.add_mid, Nat.zero_add, blk_cell h j]
  simpa using hv
def callL (x : S39) : List Value := [.int .i64 x.f0, .int .i64 x.f1, .bool x.f2, .string x.f3, .int .i64 x.f4.f0, .string x.f4.f1, .string x.f4.f2, .int .i64 x.f4.f3, .int .i64 x.f5, .int .i64 x.f6, .int .i64 x.f7.f0, .int .i64 x.f7.f1, .string x.f8.f0, .string x.f8.f1, .int .i64 x.f8.f2, .bool x.f9]
theorem add_add (p : Addr) (i j : Nat) : (p.add i).add j = p.add (i + j) := by
  unfold Addr.add
  by_cases hi : i = 0
  · subst hi
    simp
  · by_cases hj : j = 0
    · subst hj
      simp [hi]
    · simp [hi, hj, Nat.add_assoc]
theorem row39 {w : World} {A : Option Addr} {n : Nat} {xs : List S39} (h : Kd.C k39 w A n xs) (i : Int) (h0 : 0 ≤ i) (h1 : i < n) : ∃ ad, A = some ad ∧ ∀ j v, (callL (rd_T39 xs i))[j]? = some v → w.cell? ((ad.add (i.toNat * 16)).add j) = some v := by
  obtain ⟨ad, c, e, _, hK, hc0⟩ := Kd.C_get h z39 i h0 h1
  obtain rfl := k39_open hK
  exact ⟨ad, e, fun j v hv => by rw [add_add]; exact hc0 j v hv⟩
/-- Which calls an order has: the cells of 'in'. -/
def inV (n : Nat) (o : List Nat) : Array Value := ((List.range n).map fun k => Value.int .i64 (if o.contains k = true then 1 else 0)).toArray
theorem inV_at {n : Nat} {o : List Nat} {k : Nat} (h : k < n) : (inV n o)[k]? = some (.int .i64 (if o.contains k = true then 1 else 0)) := by
  unfold inV
  simp [h]
def Rdy (l : List S39) (o : List Nat) (i : Nat) (k : Int) : Prop := ∀ x : Nat, (x : Int) < k → o.contains x = true ∨ precB (cl l x) (cl l i) = false
theorem rdy_yes {l : List S39} {o : List Nat} {i : Nat} (h : Rdy l o i l.length) : rdyB l o i = true := by
  unfold rdyB
  rw [List.all_eq_true]
  intro k hk
  rcases h k (by have := List.mem_range.mp hk; omega) with e | e <;> simp_all
theorem rdy_no {l : List S39} {o : List Nat} {i : Nat} {k : Int} (h0 : 0 ≤ k) (hk : k < l.length) (h1 : o.contains k.toNat = false) (h2 : precB (rd_T39 l k) (cl l i) = true) : rdyB l o i = false := by
  rw [Bool.eq_false_iff]
  intro h
  rw [rdyB_iff] at h
  rcases h k.toNat (by omega) with e | e
  · rw [← List.contains_iff_mem, h1] at e
    cases e
  · rw [rd_cl'] at h2
    rw [h2] at e
    cases e
theorem rdy_next {l : List S39} {o : List Nat} {i : Nat} {k : Int} (h0 : 0 ≤ k) (h : Rdy l o i k) (h1 : o.contains k.toNat = true ∨ precB (rd_T39 l k) (cl l i) = false) : Rdy l o i (k + 1) := by
  intro x hx
  by_cases e : (x : Int) = k
  · rw [← e] at h1
    exact h1
  · exact h x (by omega)
theorem row39' {w : World} {ad : Addr} {n : Nat} {xs : List S39} (h : Kd.C k39 w (some ad) n xs) (i : Int) (h0 : 0 ≤ i) (h1 : i < n) : ∀ j v, (callL (rd_T39 xs i))[j]? = some v → w.cell? ((ad.add (i.toNat * 16)).add j) = some v := by
  obtain ⟨ad', e, h2⟩ := row39 h i h0 h1
  cases e
  exact h2
end Go.Proofs.Ytbakmkoppieelaa.PLinearChecks

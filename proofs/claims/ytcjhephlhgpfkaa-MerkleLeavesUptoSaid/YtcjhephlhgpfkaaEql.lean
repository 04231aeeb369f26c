/- What is proved: two equal digests compare as equal; a digest is loaded as a whole; the conditions stand in the theorems. -/
import Derived.Test.YtcjhephlhgpfkaaShaNode
import Derived.Laws.StructEq
namespace Go.Proofs.Ytcjhephlhgpfkaa.Sha
open Go.RowKit Go.Proofs.YtcjhephlhgpfkaaW.PrintWords Go.Proofs.YtcjhephlhgpfkaaW.PrintLast
set_option linter.unusedVariables false
set_option linter.unusedSimpArgs false
theorem row_part (f : Nat → Int) (i : Nat) (h : i < 32) (W : World) : (part 5 (Row32 f 32) (i * 1)).run Try.prog W = .ok (.int .u8 (f i)) W := by
  have h1 := row32_at f 32 i h
  rw [if_pos h] at h1
  have h2 : (isAgg 5).run Try.prog W = .ok false W := by
    unfold isAgg
    rw [Sem.run_bind, run_underlying Try.underlying5 W]
    rfl
  unfold part
  rw [Sem.run_bind, h2]
  simp only [Result.andThen_ok, Nat.mul_one, h1]
  rfl
theorem range_all {σ : Type} (P : Program) (body : Nat → σ → Sem (ForInStep σ)) (s : σ) (W : World) : ∀ l : List Nat, (∀ i ∈ l, (body i s).run P W = .ok (.yield s) W) → (forIn l s body).run P W = .ok s W
  | [], _ => by simp
  | i :: l, h => by
    rw [List.forIn_cons, Sem.run_bind, h i (by simp)]
    simp only [Result.andThen_ok]
    exact range_all P body s W l (fun j hj => h j (List.mem_cons_of_mem _ hj))
theorem eql23 (L : List Int) (W : World) : (binOp .eql 23 (digV L) (digV L)).run Try.prog W = .ok (.bool true) W := by
  unfold digV
  rw [run_eql_struct]
  rw [show (10000 : Nat) = 9999 + 1 from rfl, Op.equalIn]
  simp only [Sem.run_bind, run_underlying Try.underlying23, Result.andThen_ok]
  obtain ⟨i0, hi, hz0, hz1, hz2⟩ := info_parts info5
  have hs : (sizeOf 5).run Try.prog W = .ok 1 W := by simp [sizeOf, typeInfo, hi, hz1]
  rw [hs]
  simp only [Result.andThen_ok]
  rw [Std.Legacy.Range.forIn_eq_forIn_range', range_all]
  · simp
  · intro i hi
    have h32 : i < 32 := by simp [List.mem_range'] at hi; omega
    rw [Sem.run_bind, row_part _ _ h32]
    simp only [Result.andThen_ok]
    rw [Sem.run_bind, row_part _ _ h32]
    simp only [Result.andThen_ok]
    rw [Sem.run_bind, show (9999 : Nat) = 9998 + 1 from rfl, run_equalIn_int W 9998 5 .u8 .u8 _ _ Try.underlying5]
    simp
theorem yields_eql (a : Act) (o : Oper) (x y : Operand) (L : List Int) (ho : o.op = .binOp .eql 23 x y 23) (hx : a.eval x = digV L) (hy : a.eval y = digV L) (W : World) : (execOp a.eval o).run Try.prog W = .ok (.value (.bool true)) W := by
  have hg : (eqGuard .eql 23 x y (digV L) (digV L)).run Try.prog W = .ok () W := run_eqGuard_agg W .eql 23 x y _ _ (by kernel_rfl)
  unfold execOp
  simp only [ho, hx, hy, Sem.run_bind, hg, eql23, Result.andThen_ok, Sem.run_pure]
theorem yields_load (a : Act) (o : Oper) (x : Operand) (W : World) (g : Nat) (ty : TypeId) (v : Value) (ho : o.op = .load ty x) (hx : a.eval x = .pointer (some ⟨g, 0, none⟩)) (hl : (loadVar ty ⟨g, 0, none⟩).run Try.prog W = .ok v W) :
    (execOp a.eval o).run Try.prog W = .ok (.value v) W := by
  unfold execOp
  simp only [ho, hx, Instr.loadAt, Instr.sureAddr, Sem.run_bind, Sem.run_pure, Result.andThen_ok, hl]
theorem load24 (W : World) (g : Nat) (D : List Int) (hl : D.length = 512) (h : W.heap[g]? = some (.cells (D512 D) 24 (0, 0))) : (loadVar 24 ⟨g, 0, none⟩).run Try.prog W = .ok (.agg (D512 D)) W :=
  run_loadVar_row (P := Try.prog) W g 24 24 (D512 D) (0, 0) _ h Try.underlying24 rfl (by rw [show (D512 D).size = 512 by simp [D512, nums, hl]]; kernel_rfl)
theorem load23 (W : World) (g : Nat) (f : Nat → Int) (h : W.heap[g]? = some (.cells (Row32 f 32) 23 (0, 0))) : (loadVar 23 ⟨g, 0, none⟩).run Try.prog W = .ok (.agg (Row32 f 32)) W :=
  run_loadVar_row (P := Try.prog) W g 23 23 (Row32 f 32) (0, 0) _ h Try.underlying23 rfl (by kernel_rfl)
end Go.Proofs.Ytcjhephlhgpfkaa.Sha

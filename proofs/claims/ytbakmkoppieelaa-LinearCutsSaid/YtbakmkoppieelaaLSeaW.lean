/- What is proved: a map from texts to what stands under them, at the operations that read and write it. -/
import Derived.Test.YtbakmkoppieelaaLSeaD
import Derived.Maps.OwnOps
import Derived.Maps.OwnSet
namespace Go.Proofs.Ytbakmkoppieelaa.PLinearChecks
open Go.RowKit Go.Proofs.YtbakmkoppieelaaW.PrintWords Go.Proofs.YtbakmkoppieelaaW.PrintLast Go.Proofs.YtbakmkoppieelaaW.PrintMore
set_option linter.unusedVariables false
set_option linter.unusedSimpArgs false
abbrev cellV (c : SC) : Value := .agg #[.bool c.f0, .string c.f1, .int .i64 c.f2, .int .i64 c.f3, .int .i64 c.f4]
def encC (c : SC) : DataW Unit := .agg [.lit (.bool c.f0), .lit (.string c.f1.data.toList), .lit (.int .i64 c.f2), .lit (.int .i64 c.f3), .lit (.int .i64 c.f4)]
open Classical in
noncomputable def cellE (v : Value) : Option (DataW Unit × List MemPlace) := if h : ∃ c, v = cellV c then some (encC h.choose, []) else none
/-- The map in block b tells what stands under each key; it has at most n entries. -/
def MapK (w : World) (b n : Nat) (m : KF) : Prop := ∃ D : DataW Unit, w.ownsMap Try.prog 9 cellE b n D ∧ ∀ k : List UInt8, D.atKey (.string k) (encC zC) = encC (m k)
theorem MapK.kept {w w' : World} {b n : Nat} {m : KF} {row : Option Nat} (h : MapK w b n m) (hg : w.grownBy w' row) (hne : some b ≠ row) : MapK w' b n m := by
  obtain ⟨D, h1, h2⟩ := h
  exact ⟨D, h1.kept hg hne, h2⟩
theorem MapK.mono {w : World} {b n k : Nat} {m : KF} (h : MapK w b n m) (hk : n ≤ k) : MapK w b k m := by
  obtain ⟨D, h1, h2⟩ := h
  exact ⟨D, h1.mono hk, h2⟩
end Go.Proofs.Ytbakmkoppieelaa.PLinearChecks

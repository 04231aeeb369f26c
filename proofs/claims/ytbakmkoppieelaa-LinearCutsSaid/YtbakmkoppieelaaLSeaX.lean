/- What is proved: Search answers the least witness, of any calls. -/
import Derived.Test.YtbakmkoppieelaaLSeaV
namespace Go.Proofs.Ytbakmkoppieelaa.PLinearChecks
open Go.RowKit Go.Proofs.YtbakmkoppieelaaW.PrintWords Go.Proofs.YtbakmkoppieelaaW.PrintLast Go.Proofs.YtbakmkoppieelaaW.PrintMore
set_option linter.unusedVariables false
set_option linter.unusedSimpArgs false
/-- What the search is while it is laid out. -/
structure Pre (w : World) (A : Option Addr) (c n gp gi bm left : Nat) (W : World) : Prop where
  hp : W.heap[gp]? = some (.cells (srV A n c gi bm (.slice none 0 0) left) 174 (0, 0))
  hi : W.heap[gi]? = some (.cells (inV n []) 3 (0, 0))
  hm : MapK W bm 0 zK
  hb : Below w.heap.size w W
  bp : w.heap.size ≤ gp
  bbi : w.heap.size ≤ gi
  bbm : w.heap.size ≤ bm
  npi : gp ≠ gi
  npm : gp ≠ bm
  nim : gi ≠ bm
theorem Pre.below {w : World} {A : Option Addr} {c n gp gi bm left : Nat} {W W' : World} (h : Pre w A c n gp gi bm left W) (hb : Below W.heap.size W W') : Pre w A c n gp gi bm left W' :=
  ⟨blk_below h.hp hb, blk_below h.hi hb, h.hm.kept (grown_of hb) (by simp), h.hb.trans (hb.mono h.hb.size), h.bp, h.bbi, h.bbm, h.npi, h.npm, h.nim⟩
theorem Pre.grown {w : World} {A : Option Addr} {c n gp gi bm left : Nat} {W W' : World} (h : Pre w A c n gp gi bm left W) {g : Nat} (hg : W.grownBy W' (some g)) (h0 : w.heap.size ≤ g) (h1 : g ≠ gp) (h2 : g ≠ gi) (h3 : g ≠ bm) : Pre w A c n gp gi bm left W' :=
  ⟨blk_grown h.hp hg (by intro e; injection e with e; exact h1 e.symm), blk_grown h.hi hg (by intro e; injection e with e; exact h2 e.symm), h.hm.kept hg (by intro e; injection e with e; exact h3 e.symm), below_of_grown h.hb hg h0 h.hb.size, h.bp, h.bbi, h.bbm, h.npi, h.npm, h.nim⟩
theorem Pre.left {w : World} {A : Option Addr} {c n gp gi bm left left' : Nat} {W W' : World} (h : Pre w A c n gp gi bm left W) (hc : W'.heap[gp]? = some (.cells (srV A n c gi bm (.slice none 0 0) left') 174 (0, 0))) (hg : W.grownBy W' (some gp)) : Pre w A c n gp gi bm left' W' :=
  ⟨hc, blk_grown h.hi hg (by intro e; injection e with e; exact h.npi e.symm), h.hm.kept hg (by intro e; injection e with e; exact h.npm e.symm), below_of_grown h.hb hg h.bp h.hb.size, h.bp, h.bbi, h.bbm, h.npi, h.npm, h.nim⟩
theorem ref_two (l : List S39) : refF l = 0 ∨ refF l = 260 := by
  unfold refF
  split
  · exact .inl rfl
  · exact .inr rfl
end Go.Proofs.Ytbakmkoppieelaa.PLinearChecks

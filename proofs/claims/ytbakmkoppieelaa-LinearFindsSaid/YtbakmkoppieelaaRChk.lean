/- What is proved: hawserref26.Check of any calls, and its plain words; the condition stands in its theorem. -/
import Derived.Test.YtbakmkoppieelaaPLinearChecksx6
import Derived.Test.YtbakmkoppieelaaPLinearChecksx7
import Derived.Lib.Hide
namespace Go.Proofs.Ytbakmkoppieelaa.PLinearChecks
open Go.RowKit Go.Proofs.YtbakmkoppieelaaW.PrintWords Go.Proofs.YtbakmkoppieelaaW.PrintLast Go.Proofs.YtbakmkoppieelaaW.PrintMore
set_option linter.unusedVariables false
set_option linter.unusedSimpArgs false
def ar (n k : Nat) : Array Bool := (List.replicate k true ++ List.replicate (n - k) false).toArray
def mayB (c : S39) : Bool := mayB16 c.f0 c.f1 c.f2 c.f3 c.f4.f0 c.f4.f1 c.f4.f2 c.f4.f3 c.f5 c.f6 c.f7.f0 c.f7.f1 c.f8.f0 c.f8.f1 c.f8.f2 c.f9
def ansB (c : S39) : Bool := c.f6 != -1
def bad1 (l : List S39) (i : Int) : Bool := !mayB (rd_T39 l i) || (decide (i > 0) && decide ((rd_T39 l i).f5 ≤ (rd_T39 l (i - 1)).f5))
def bad2 (l : List S39) (i k : Int) : Bool := (k != i && ansB (rd_T39 l i)) && ((rd_T39 l i).f6 == (rd_T39 l k).f5 || (rd_T39 l i).f6 == (rd_T39 l k).f6)
def bad3 (l : List S39) (i k : Int) : Bool := (decide (k < i) && (rd_T39 l k).f0 == (rd_T39 l i).f0) && ((!ansB (rd_T39 l k) || decide ((rd_T39 l k).f6 ≥ (rd_T39 l i).f5)) || decide ((rd_T39 l k).f1 ≥ (rd_T39 l i).f1))
def okIn (l : List S39) (i k0 : Int) : Prop := ∀ k, 0 ≤ k → k < k0 → bad2 l i k = false ∧ bad3 l i k = false
def okTo (l : List S39) (i0 : Int) : Prop := ∀ i, 0 ≤ i → i < i0 → bad1 l i = false ∧ okIn l i l.length
open Classical in
noncomputable def refF (l : List S39) : Int := if okTo l l.length then 0 else 260
theorem refF_ok {l : List S39} (h : okTo l l.length) : refF l = 0 := if_pos h
theorem refF_bad {l : List S39} (i : Int) (h0 : 0 ≤ i) (h1 : i < l.length) (h : ¬ (bad1 l i = false ∧ okIn l i l.length)) : refF l = 260 := if_neg (fun hh => h (hh i h0 h1))
end Go.Proofs.Ytbakmkoppieelaa.PLinearChecks

/- What is proved: plain words for the run of the search. -/
import Derived.Test.YtbakmkoppieelaaLSeaS
namespace Go.Proofs.Ytbakmkoppieelaa.PLinearChecks
open Go.RowKit Go.Proofs.YtbakmkoppieelaaW.PrintWords Go.Proofs.YtbakmkoppieelaaW.PrintLast Go.Proofs.YtbakmkoppieelaaW.PrintMore
set_option linter.unusedVariables false
set_option linter.unusedSimpArgs false
theorem St.map {w0 : World} {A : Option Addr} {c : Nat} {l : List S39} {p bi bm : Nat} {w w' : World} {o : List Nat} {n k : Nat} {m m' : KF} {v : Value} (h : St w0 A c l p bi bm w o n m v) (hk : Keep (· = bm) w w') (hm : MapK w' bm k m') : St w0 A c l p bi bm w' o k m' v := by
  have hs : ∀ g, g < w.heap.size → g ≠ bm → w'.heap[g]? = w.heap[g]? := fun g hg hne => hk.block g hg hne
  refine ⟨(hs p (blk_lt h.hp) h.npm).trans h.hp, (hs bi (blk_lt h.hi) h.nim).trans h.hi, hm, ?_, ?_, h.npi, h.npm, h.nim, h.bp, h.bbi, h.bbm, h.nv⟩
  · exact ⟨hk.os.trans h.hb.os, hk.tape.trans h.hb.tape, hk.output.trans h.hb.output, Nat.le_trans h.hb.size hk.size, fun g hg => (hs g (Nat.lt_of_lt_of_le hg h.hb.size) (by have := h.bbm; omega)).trans (h.hb.block g hg)⟩
  · exact h.ho.kept hk.grownB (by cases hv : v.ownBlock with | none => exact Or.inl rfl | some g => exact Or.inr (fun e => (h.nv g hv).2.2 (by injection e)))
theorem xs_new {p bi bm : Nat} {w : World} {v v' : Value} {k : Nat} (h : NewB w v v') (hk : k < w.heap.size) (hx : Xs p bi bm v' k) : Xs p bi bm v k := by
  rcases hx with e | e | e | e
  · exact Or.inl e
  · exact Or.inr (Or.inl e)
  · exact Or.inr (Or.inr (Or.inl e))
  · rcases h k e with q | q
    · exact Or.inr (Or.inr (Or.inr q))
    · omega
theorem Keep.xs {p bi bm : Nat} {a b c : World} {v v' : Value} (h : Keep (Xs p bi bm v) a b) (hn : NewB a v v') (g : Keep (Xs p bi bm v') b c) : Keep (Xs p bi bm v) a c :=
  ⟨g.os.trans h.os, g.tape.trans h.tape, g.output.trans h.output, Nat.le_trans h.size g.size, fun k hk hx => (g.block k (Nat.lt_of_lt_of_le hk h.size) (fun e => hx (xs_new hn hk e))).trans (h.block k hk hx)⟩
theorem NewB.trans {a b : World} {v v' v'' : Value} (h : NewB a v v') (hs : a.heap.size ≤ b.heap.size) (g : NewB b v' v'') : NewB a v v'' := fun k hk => by
  rcases g k hk with e | e
  · exact h k e
  · exact Or.inr (Nat.le_trans hs e)
theorem NewB.refl (w : World) (v : Value) : NewB w v v := fun _ hk => Or.inl hk
end Go.Proofs.Ytbakmkoppieelaa.PLinearChecks

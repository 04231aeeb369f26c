/- What is proved: words on worlds: what was there stays but for some blocks. -/
import Derived.Test.YtbakmkoppieelaaLSeaW
import Derived.Laws.Tables
namespace Go.Proofs.Ytbakmkoppieelaa.PLinearChecks
open Go.RowKit Go.Proofs.YtbakmkoppieelaaW.PrintWords Go.Proofs.YtbakmkoppieelaaW.PrintLast Go.Proofs.YtbakmkoppieelaaW.PrintMore
set_option linter.unusedVariables false
set_option linter.unusedSimpArgs false
/-- What was there stays, but for the blocks of X. -/
structure Keep (X : Nat → Prop) (w w' : World) : Prop where
  os : w'.os = w.os
  tape : w'.tape = w.tape
  output : w'.output = w.output
  size : w.heap.size ≤ w'.heap.size
  block : ∀ k, k < w.heap.size → ¬ X k → w'.heap[k]? = w.heap[k]?
theorem Keep.refl (X : Nat → Prop) (w : World) : Keep X w w := ⟨rfl, rfl, rfl, Nat.le_refl _, fun _ _ _ => rfl⟩
theorem Keep.trans {X : Nat → Prop} {a b c : World} (h : Keep X a b) (g : Keep X b c) : Keep X a c :=
  ⟨g.os.trans h.os, g.tape.trans h.tape, g.output.trans h.output, Nat.le_trans h.size g.size, fun k hk hx => (g.block k (Nat.lt_of_lt_of_le hk h.size) hx).trans (h.block k hk hx)⟩
theorem Keep.imp {X Y : Nat → Prop} {a b : World} (h : Keep X a b) (hi : ∀ k, k < a.heap.size → X k → Y k) : Keep Y a b := ⟨h.os, h.tape, h.output, h.size, fun k hk hx => h.block k hk (fun e => hx (hi k hk e))⟩
theorem Keep.of_below {X : Nat → Prop} {w w' : World} (h : Below w.heap.size w w') : Keep X w w' := ⟨h.os, h.tape, h.output, h.size, fun k hk _ => h.block k hk⟩
theorem Keep.below {X : Nat → Prop} {a b c : World} (h : Keep X a b) (g : Below b.heap.size b c) : Keep X a c := h.trans (Keep.of_below g)
theorem Keep.grown {X : Nat → Prop} {a b c : World} {row : Option Nat} (h : Keep X a b) (g : b.grownBy c row) (hr : ∀ k, row = some k → k < a.heap.size → X k) : Keep X a c :=
  ⟨g.os.trans h.os, g.tape.trans h.tape, g.output.trans h.output, Nat.le_trans h.size g.size, fun k hk hx => (g.block k (Nat.lt_of_lt_of_le hk h.size) (fun e => hx (hr k e.symm hk))).trans (h.block k hk hx)⟩
theorem Keep.alloc {X : Nat → Prop} {a b : World} (h : Keep X a b) (o : Obj) : Keep X a (b.alloc o) := h.grown (World.grownBy_alloc b o none) (fun k e => by cases e)
theorem Keep.drew {X : Nat → Prop} {a b : World} (h : Keep X a b) : Keep X a b.drew := h.below (below_drew1 (Below.refl _ _))
theorem Keep.drewN {X : Nat → Prop} {a b : World} (h : Keep X a b) (n : Nat) : Keep X a (b.drewN n) := h.below (pw_below_drewN (Below.refl _ _) n)
theorem Keep.grownB {b : Nat} {a c : World} (h : Keep (· = b) a c) : a.grownBy c (some b) := ⟨h.os, h.tape, h.output, h.size, fun k hk hx => h.block k hk (fun e => hx (by rw [e]))⟩
theorem Keep.set {X : Nat → Prop} {a b : World} (h : Keep X a b) (p : Addr) (v : Value) (hp : p.block < a.heap.size → X p.block) : Keep X a (b.setCell p v) := by
  have hh : Below (min p.block b.heap.size) b (b.setCell p v) := (Below.refl _ _).setCell (p := p) (Nat.min_le_left _ _) v
  refine ⟨hh.os.trans h.os, hh.tape.trans h.tape, hh.output.trans h.output, Nat.le_trans h.size hh.size, fun k hk hx => ?_⟩
  have hne : k ≠ p.block := fun e => hx (by rw [e]; exact hp (e ▸ hk))
  refine Eq.trans ?_ (h.block k hk hx)
  exact Below.heap_setCell b p v k hne
theorem grown_of {A B : World} (h : Below A.heap.size A B) : A.grownBy B none := ⟨h.os, h.tape, h.output, h.size, fun k hk _ => h.block k hk⟩
end Go.Proofs.Ytbakmkoppieelaa.PLinearChecks

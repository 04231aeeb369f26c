/- What is proved: plain words on orders and calls, words on worlds and blocks, the calls that rows tell; the conditions stand in the theorems. -/
import Derived.Test.YtbakmkoppieelaaLStub
import Derived.Maps.OwnOps
import Derived.Maps.OwnSet
import Derived.Laws.Tables
import Derived.Deep.MidRow
import Derived.Laws.IdiomCopy
import Derived.Maps.AppendAt
namespace Go.Proofs.Ytbakmkoppieelaa.PLinearChecks
open Go.RowKit Go.Proofs.YtbakmkoppieelaaW.PrintWords Go.Proofs.YtbakmkoppieelaaW.PrintLast Go.Proofs.YtbakmkoppieelaaW.PrintMore
set_option linter.unusedVariables false
set_option linter.unusedSimpArgs false
/-! #### what stands under a key -/
structure SC where
  f0 : Bool
  f1 : ByteArray
  f2 : Int
  f3 : Int
  f4 : Int
def zC : SC := ⟨false, ⟨#[]⟩, 0, 0, 0⟩
/-- What stands under all keys. -/
def KF := List UInt8 → SC
def zK : KF := fun _ => zC
def cl (l : List S39) (i : Nat) : S39 := l.getD i z39
theorem rd_cl (l : List S39) (i : Nat) : rd_T39 l (i : Int) = cl l i := rfl
theorem rd_cl' (l : List S39) (i : Int) : rd_T39 l i = cl l i.toNat := rfl
abbrev cellV (c : SC) : Value := .agg #[.bool c.f0, .string c.f1, .int .i64 c.f2, .int .i64 c.f3, .int .i64 c.f4]
def encC (c : SC) : DataW Unit := .agg [.lit (.bool c.f0), .lit (.string c.f1.data.toList), .lit (.int .i64 c.f2), .lit (.int .i64 c.f3), .lit (.int .i64 c.f4)]
open Classical in
noncomputable def cellE (v : Value) : Option (DataW Unit × List MemPlace) := if h : ∃ c, v = cellV c then some (encC h.choose, []) else none
/-- The map in block b tells what stands under each key; it has at most n entries. -/
def MapK (w : World) (b n : Nat) (m : KF) : Prop := ∃ D : DataW Unit, w.ownsMap Try.prog 9 cellE b n D ∧ ∀ k : List UInt8, D.atKey (.string k) (encC zC) = encC (m k)
theorem MapK.kept {w w' : World} {b n : Nat} {m : KF} {row : Option Nat} (h : MapK w b n m) (hg : w.grownBy w' row) (hne : some b ≠ row) : MapK w' b n m := by
  obtain ⟨D, h1, h2⟩ := h
  exact ⟨D, h1.kept hg hne, h2⟩
theorem MapK.mono {w : World} {b n k : Nat} {m : KF} (h : MapK w b n m) (hk : n ≤ k) : MapK w b k m := by
  obtain ⟨D, h1, h2⟩ := h
  exact ⟨D, h1.mono hk, h2⟩
/-- What was there stays, but for the blocks of X. -/
structure Keep (X : Nat → Prop) (w w' : World) : Prop where
  os : w'.os = w.os
  tape : w'.tape = w.tape
  output : w'.output = w.output
  size : w.heap.size ≤ w'.heap.size
  block : ∀ k, k < w.heap.size → ¬ X k → w'.heap[k]? = w.heap[k]?
theorem Keep.refl (X : Nat → Prop) (w : World) : Keep X w w := ⟨rfl, rfl, rfl, Nat.le_refl _, fun _ _ _ => rfl⟩
theorem Keep.trans {X : Nat → Prop} {a b c : World} (h : Keep X a b) (g : Keep X b c) : Keep X a c :=
  ⟨g.os.trans h.os, g.tape.trans h.tape, g.output.trans h.output, Nat.le_trans h.size g.size, fun k hk hx => (g.block k (Nat.lt_of_lt_of_le hk h.size) hx).trans (h.block k hk hx)⟩
theorem Keep.of_below {X : Nat → Prop} {w w' : World} (h : Below w.heap.size w w') : Keep X w w' := ⟨h.os, h.tape, h.output, h.size, fun k hk _ => h.block k hk⟩
theorem Keep.below {X : Nat → Prop} {a b c : World} (h : Keep X a b) (g : Below b.heap.size b c) : Keep X a c := h.trans (Keep.of_below g)
theorem Keep.grown {X : Nat → Prop} {a b c : World} {row : Option Nat} (h : Keep X a b) (g : b.grownBy c row) (hr : ∀ k, row = some k → k < a.heap.size → X k) : Keep X a c :=
  ⟨g.os.trans h.os, g.tape.trans h.tape, g.output.trans h.output, Nat.le_trans h.size g.size, fun k hk hx => (g.block k (Nat.lt_of_lt_of_le hk h.size) (fun e => hx (hr k e.symm hk))).trans (h.block k hk hx)⟩
theorem Keep.alloc {X : Nat → Prop} {a b : World} (h : Keep X a b) (o : Obj) : Keep X a (b.alloc o) := h.grown (World.grownBy_alloc b o none) (fun k e => by cases e)
theorem Keep.drew {X : Nat → Prop} {a b : World} (h : Keep X a b) : Keep X a b.drew := h.below (below_drew1 (Below.refl _ _))
theorem Keep.drewN {X : Nat → Prop} {a b : World} (h : Keep X a b) (n : Nat) : Keep X a (b.drewN n) := h.below (pw_below_drewN (Below.refl _ _) n)
theorem Keep.grownB {b : Nat} {a c : World} (h : Keep (· = b) a c) : a.grownBy c (some b) := ⟨h.os, h.tape, h.output, h.size, fun k hk hx => h.block k hk (fun e => hx (by rw [e]))⟩
theorem Keep.set {X : Nat → Prop} {a b : World} (h : Keep X a b) (p : Addr) (v : Value) (hp : p.block < a.heap.size → X p.block) : Keep X a (b.setCell p v) := by
  have hh : Below (min p.block b.heap.size) b (b.setCell p v) := (Below.refl _ _).setCell (p := p) (Nat.min_le_left _ _) v
  refine ⟨hh.os.trans h.os, hh.tape.trans h.tape, hh.output.trans h.output, Nat.le_trans h.size hh.size, fun k hk hx => ?_⟩
  have hne : k ≠ p.block := fun e => hx (by rw [e]; exact hp (e ▸ hk))
  refine Eq.trans ?_ (h.block k hk hx)
  exact Below.heap_setCell b p v k hne
theorem store_row_event {P : Program} {ops : Array Oper} {rest : List Oper} {o : Oper} {a : Act} {w : World} {Q : Exit → Act → World → Prop} (hgd : o.guard = none) (ty : TypeId) (x y : Operand) (ho : o.op = .store ty x y)
    (g : Nat) (cells : Array Value) (hx : a.eval x = .pointer (some ⟨g, 0, none⟩)) (hy : a.eval y = .agg cells)
    (t : TypeId) (old : Array Value) (hg : w.heap[g]? = some (.cells old t (0, 0))) (hi : (P.info? ty).map (·.size) = some cells.size)
    (hold : old.size = cells.size) (h1 : cells.all (·.oneCell') = true)
    (h : ∀ w', w'.heap[g]? = some (.cells cells t (0, 0)) → w.grownBy w' (some g) → wpList P ops Q rest (a.put o.dst undef) w') : wpList P ops Q (o :: rest) a w := by
  refine wpList_store_row hgd ty x y ho g cells hx hy t old hg hi hold h1 (h _ ?_ ⟨rfl, rfl, rfl, by simp [World.setRow], fun k hk hne => ?_⟩)
  · exact setRow_heap w g old cells t (0, 0) hg
  · have hk2 : g ≠ k := fun e => hne (by rw [e])
    simp [World.setRow, Array.getElem?_modify, hk2]
theorem grown_of {A B : World} (h : Below A.heap.size A B) : A.grownBy B none := ⟨h.os, h.tape, h.output, h.size, fun k hk _ => h.block k hk⟩
theorem run_loadAt_p {P : Program} (w : World) (p : Addr) (ty : TypeId) (cs : List Value) (d : TypeDesc) (hc : ∀ j v, cs[j]? = some v → w.cell? (p.add j) = some v)
    (hu : P.underlying ty = some d) (hd : d.isRow = true) (hi : (P.info? ty).map (·.size) = some cs.length) :
    (Instr.loadAt ty (.pointer (some p))).run P w = .ok (.agg cs.toArray) w := by
  have hl : (loadCells p cs.length).run P w = .ok cs.toArray w := run_loadCells_list (P := P) w p cs hc
  have h2 : (loadVar ty p).run P w = .ok (.agg cs.toArray) w := by
    cases hq : P.info? ty with
    | none => simp [hq] at hi
    | some i =>
      have hs : i.size = cs.length := by simpa [hq] using hi
      have hagg : (isAgg ty).run P w = .ok true w := by
        unfold isAgg
        rw [Sem.run_bind, run_underlying hu w]
        cases d <;> simp_all
      simp [loadVar, Sem.run_bind, hagg, sizeOf, typeInfo, hq, hs, hl]
  simp only [Instr.loadAt, Instr.sureAddr, Sem.run_bind, Sem.run_pure, Result.andThen_ok, h2]
theorem exec_load_p {P : Program} {o : Oper} {a : Act} {w : World} (ty : TypeId) (x : Operand) (ho : o.op = .load ty x) (p : Addr) (hx : a.eval x = .pointer (some p)) (cs : List Value) (d : TypeDesc) (hc : ∀ j v, cs[j]? = some v → w.cell? (p.add j) = some v)
    (hu : P.underlying ty = some d) (hd : d.isRow = true) (hi : (P.info? ty).map (·.size) = some cs.length) : (execOp a.eval o).run P w = .ok (.value (.agg cs.toArray)) w := by
  unfold execOp
  simp only [ho, hx, run_loadAt_p w p ty cs d hc hu hd hi, Sem.run_bind, Sem.run_pure, Result.andThen_ok]
theorem wpList_load_p {P : Program} {ops : Array Oper} {rest : List Oper} {o : Oper} {a : Act} {w : World} {Q : Exit → Act → World → Prop} (hgd : o.guard = none) (ty : TypeId) (x : Operand) (ho : o.op = .load ty x) (p : Addr) (hx : a.eval x = .pointer (some p)) (cs : List Value) (d : TypeDesc) (hc : ∀ j v, cs[j]? = some v → w.cell? (p.add j) = some v)
    (hu : P.underlying ty = some d) (hd : d.isRow = true) (hi : (P.info? ty).map (·.size) = some cs.length) (h : wpList P ops Q rest (a.put o.dst (.agg cs.toArray)) w) : wpList P ops Q (o :: rest) a w := by
  refine wpList_plain hgd fun K hK => ?_
  unfold Oper.wp
  rw [exec_load_p ty x ho p hx cs d hc hu hd hi]
  exact hK _ _ h
def callL (x : S39) : List Value := [.int .i64 x.f0, .int .i64 x.f1, .bool x.f2, .string x.f3, .int .i64 x.f4.f0, .string x.f4.f1, .string x.f4.f2, .int .i64 x.f4.f3, .int .i64 x.f5, .int .i64 x.f6, .int .i64 x.f7.f0, .int .i64 x.f7.f1, .string x.f8.f0, .string x.f8.f1, .int .i64 x.f8.f2, .bool x.f9]
theorem add_add (p : Addr) (i j : Nat) : (p.add i).add j = p.add (i + j) := by
  unfold Addr.add
  by_cases hi : i = 0
  · subst hi
    simp
  · by_cases hj : j = 0
    · subst hj
      simp [hi]
    · simp [hi, hj, Nat.add_assoc]
theorem row39 {w : World} {A : Option Addr} {n : Nat} {xs : List S39} (h : Kd.C k39 w A n xs) (i : Int) (h0 : 0 ≤ i) (h1 : i < n) : ∃ ad, A = some ad ∧ ∀ j v, (callL (rd_T39 xs i))[j]? = some v → w.cell? ((ad.add (i.toNat * 16)).add j) = some v := by
  obtain ⟨ad, c, e, _, hK, hc0⟩ := Kd.C_get h z39 i h0 h1
  obtain rfl := k39_open hK
  exact ⟨ad, e, fun j v hv => by rw [add_add]; exact hc0 j v hv⟩
/-- Which calls an order has: the cells of 'in'. -/
def inV (n : Nat) (o : List Nat) : Array Value := ((List.range n).map fun k => Value.int .i64 (if o.contains k = true then 1 else 0)).toArray
theorem wp_store_cell {P : Program} {o : Oper} {a : Act} {w : World} {K : Act → World → Prop} {Q : Exit → Act → World → Prop} (ty : TypeId) (x y : Operand) (ho : o.op = .store ty x y)
    (g i : Nat) (v : Value) (hx : a.eval x = .pointer (some ⟨g, i, none⟩)) (hy : a.eval y = v) (t : TypeId) (cs : Array Value) (hg : w.heap[g]? = some (.cells cs t (0, 0))) (hi : i < cs.size)
    (hs : (P.info? ty).map (·.size) = some 1) (h1 : v.oneCell' = true) (hc : v.cells = #[v])
    (h : ∀ w', w'.heap[g]? = some (.cells (cs.setIfInBounds i v) t (0, 0)) → w.grownBy w' (some g) → K (a.put o.dst undef) w') : o.wp P a w K Q := by
  have hcell : w.cell? ⟨g, i + 0 + 0, none⟩ = some cs[i] := by rw [blk_cell hg]; simp [hi]
  have hrun : (storeVar ty ⟨g, i, none⟩ v).run P w = .ok () (w.setCell ⟨g, i, none⟩ v) := by
    have h2 := run_storeCells_cells (P := P) g i [v] 0 w (fun j hj => by
      obtain rfl : j = 0 := by simpa using hj
      rw [hcell]; rfl) (fun j hj => by
      obtain rfl : j = 0 := by simpa using hj
      exact blk_frozen hg _) (fun u hu => by
      have hu := List.mem_singleton.mp hu
      subst hu
      exact h1)
    cases hq : P.info? ty with
    | none => simp [hq] at hs
    | some d =>
      have hd : d.size = 1 := by simpa [hq] using hs
      simp only [storeVar, sizeOf, typeInfo, hq, hc, Sem.run_bind, Sem.run_pure, Result.andThen_ok, hd]
      simp [hc, hd, hq, typeInfo, h2, World.setCells]
  unfold Oper.wp execOp
  simp only [ho, hx, hy, Instr.storeAt, Instr.sureAddr, Sem.run_bind, Sem.run_pure, Result.andThen_ok, hrun]
  refine h _ (blk_set hg i v) ⟨rfl, rfl, rfl, by simp [World.setCell], fun k hk hne => ?_⟩
  exact Below.heap_setCell w _ v k (fun e => hne (by rw [e]))
theorem store_cell_event {P : Program} {ops : Array Oper} {rest : List Oper} {o : Oper} {a : Act} {w : World} {Q : Exit → Act → World → Prop} (hgd : o.guard = none) (ty : TypeId) (x y : Operand) (ho : o.op = .store ty x y)
    (g i : Nat) (v : Value) (hx : a.eval x = .pointer (some ⟨g, i, none⟩)) (hy : a.eval y = v) (t : TypeId) (cs : Array Value) (hg : w.heap[g]? = some (.cells cs t (0, 0))) (hi : i < cs.size)
    (hs : (P.info? ty).map (·.size) = some 1) (h1 : v.oneCell' = true) (hc : v.cells = #[v])
    (h : ∀ w', w'.heap[g]? = some (.cells (cs.setIfInBounds i v) t (0, 0)) → w.grownBy w' (some g) → wpList P ops Q rest (a.put o.dst undef) w') : wpList P ops Q (o :: rest) a w :=
  wpList_plain hgd fun K hK => wp_store_cell ty x y ho g i v hx hy t cs hg hi hs h1 hc (fun w' a b => hK _ _ (h w' a b))
theorem wpList_load_cell {P : Program} {ops : Array Oper} {rest : List Oper} {o : Oper} {a : Act} {w : World} {Q : Exit → Act → World → Prop} (hgd : o.guard = none) (ty : TypeId) (x : Operand) (ho : o.op = .load ty x)
    (g i : Nat) (hx : a.eval x = .pointer (some ⟨g, i, none⟩)) (t : TypeId) (cs : Array Value) (hg : w.heap[g]? = some (.cells cs t (0, 0))) (v : Value) (hv : cs[i]? = some v) (d : TypeDesc) (hu : P.underlying ty = some d) (hd : d.isRow = false)
    (h : wpList P ops Q rest (a.put o.dst v) w) : wpList P ops Q (o :: rest) a w := by
  refine wpList_plain hgd fun K hK => ?_
  have hcell : w.cell? ⟨g, i, none⟩ = some v := (blk_cell hg i).trans hv
  have hrun : (loadVar ty ⟨g, i, none⟩).run P w = .ok v w := by
    have hagg : (isAgg ty).run P w = .ok false w := by
      unfold isAgg
      rw [Sem.run_bind, run_underlying hu w]
      cases d <;> simp_all
    simp [loadVar, Sem.run_bind, hagg, run_load, hcell]
  unfold Oper.wp execOp
  simp only [ho, hx, Instr.loadAt, Instr.sureAddr, Sem.run_bind, Sem.run_pure, Result.andThen_ok, hrun]
  exact hK _ _ h
def leftN (l : List S39) (o : List Nat) : Nat := ((List.range l.length).filter fun k => ansB (cl l k) && !o.contains k).length
def ordV (o : List Nat) : List Value := o.map fun (i : Nat) => Value.int .i64 (i : Int)
/-- The search's record. -/
def srV (A : Option Addr) (n c bi bm : Nat) (v : Value) (left : Nat) : Array Value := #[.slice A n c, .slice (some ⟨bi, 0, none⟩) n n, .map (some bm), v, .int .i64 (left : Int)]
/-- The search's state in memory: what it has, apart from all else. -/
structure St (w0 : World) (A : Option Addr) (c : Nat) (l : List S39) (p bi bm : Nat) (w : World) (o : List Nat) (n : Nat) (m : KF) (v : Value) : Prop where
  hp : w.heap[p]? = some (.cells (srV A l.length c bi bm v (leftN l o)) 174 (0, 0))
  hi : w.heap[bi]? = some (.cells (inV l.length o) 3 (0, 0))
  hm : MapK w bm n m
  hb : Below w0.heap.size w0 w
  ho : w.ownsRow w0.heap.size 3 1 v o.length (ordV o)
  npi : p ≠ bi
  npm : p ≠ bm
  nim : bi ≠ bm
  bp : w0.heap.size ≤ p
  bbi : w0.heap.size ≤ bi
  bbm : w0.heap.size ≤ bm
  nv : ∀ k, v.ownBlock = some k → k ≠ p ∧ k ≠ bi ∧ k ≠ bm
/-- The blocks that the search may write. -/
def Xs (p bi bm : Nat) (v : Value) (k : Nat) : Prop := k = p ∨ k = bi ∨ k = bm ∨ v.ownBlock = some k
def NewB (w : World) (v v' : Value) : Prop := ∀ k, v'.ownBlock = some k → v.ownBlock = some k ∨ w.heap.size ≤ k
/-- The state stays while other blocks are made and written. -/
theorem St.below {w0 : World} {A : Option Addr} {c : Nat} {l : List S39} {p bi bm : Nat} {w w' : World} {o : List Nat} {n : Nat} {m : KF} {v : Value} (h : St w0 A c l p bi bm w o n m v) (hb : Below w.heap.size w w') : St w0 A c l p bi bm w' o n m v :=
  ⟨blk_below h.hp hb, blk_below h.hi hb, h.hm.kept (grown_of hb) (by simp), h.hb.trans (hb.mono h.hb.size), h.ho.kept (grown_of hb) (by cases v.ownBlock <;> simp), h.npi, h.npm, h.nim, h.bp, h.bbi, h.bbm, h.nv⟩
theorem St.grown {w0 : World} {A : Option Addr} {c : Nat} {l : List S39} {p bi bm : Nat} {w w' : World} {o : List Nat} {n : Nat} {m : KF} {v : Value} (h : St w0 A c l p bi bm w o n m v) {g : Nat} (hg : w.grownBy w' (some g)) (h0 : w0.heap.size ≤ g) (hne : ¬ Xs p bi bm v g) : St w0 A c l p bi bm w' o n m v := by
  have e1 : p ≠ g := fun e => hne (Or.inl e.symm)
  have e2 : bi ≠ g := fun e => hne (Or.inr (Or.inl e.symm))
  have e3 : bm ≠ g := fun e => hne (Or.inr (Or.inr (Or.inl e.symm)))
  have e4 : v.ownBlock ≠ some g := fun e => hne (Or.inr (Or.inr (Or.inr e)))
  exact ⟨blk_grown h.hp hg (by simpa using e1), blk_grown h.hi hg (by simpa using e2), h.hm.kept hg (by simpa using e3), h.hb.grown hg h.hb.size (fun k e => by injection e with e; omega), h.ho.kept hg (Or.inr e4), h.npi, h.npm, h.nim, h.bp, h.bbi, h.bbm, h.nv⟩
theorem St.reads {w0 : World} {A : Option Addr} {c : Nat} {l : List S39} {p bi bm : Nat} {w : World} {o : List Nat} {n : Nat} {m : KF} {v : Value} (h : St w0 A c l p bi bm w o n m v) (hr : Kd.C k39 w0 A l.length l) : Kd.C k39 w A l.length l := Kd.C_below hr h.hb
theorem below_of_grown {B : Nat} {a b c : World} {g : Nat} (h : Below B a b) (q : b.grownBy c (some g)) (h0 : B ≤ g) (h1 : B ≤ b.heap.size) : Below B a c := h.grown q h1 (fun k e => by injection e with e; omega)
def put.T5 : Bool × List (List Nat × List Nat) := (true, [([], []), ([], []), ([1], [1]), ([2], [2]), ([3], [3]), ([], []), ([5], [5]), ([6], [6]), ([7], [7]), ([8], [8]), ([9], [9]), ([4, 10], [4, 10]), ([0, 0, 1, 2, 3, 4, 5, 6, 7, 8, 9, 10, 11], [0]), ([12, 0, 1, 2, 3, 4, 5, 6, 7, 8, 9, 10, 11], [12]), ([13, 11, 0, 1, 2, 3, 4, 5, 6, 7, 8, 9, 10, 11], [11, 13])])
theorem St.map {w0 : World} {A : Option Addr} {c : Nat} {l : List S39} {p bi bm : Nat} {w w' : World} {o : List Nat} {n k : Nat} {m m' : KF} {v : Value} (h : St w0 A c l p bi bm w o n m v) (hk : Keep (· = bm) w w') (hm : MapK w' bm k m') : St w0 A c l p bi bm w' o k m' v := by
  have hs : ∀ g, g < w.heap.size → g ≠ bm → w'.heap[g]? = w.heap[g]? := fun g hg hne => hk.block g hg hne
  refine ⟨(hs p (blk_lt h.hp) h.npm).trans h.hp, (hs bi (blk_lt h.hi) h.nim).trans h.hi, hm, ?_, ?_, h.npi, h.npm, h.nim, h.bp, h.bbi, h.bbm, h.nv⟩
  · exact ⟨hk.os.trans h.hb.os, hk.tape.trans h.hb.tape, hk.output.trans h.hb.output, Nat.le_trans h.hb.size hk.size, fun g hg => (hs g (Nat.lt_of_lt_of_le hg h.hb.size) (by have := h.bbm; omega)).trans (h.hb.block g hg)⟩
  · exact h.ho.kept hk.grownB (by cases hv : v.ownBlock with | none => exact Or.inl rfl | some g => exact Or.inr (fun e => (h.nv g hv).2.2 (by injection e)))
theorem xs_new {p bi bm : Nat} {w : World} {v v' : Value} {k : Nat} (h : NewB w v v') (hk : k < w.heap.size) (hx : Xs p bi bm v' k) : Xs p bi bm v k := by
  rcases hx with e | e | e | e
  · exact Or.inl e
  · exact Or.inr (Or.inl e)
  · exact Or.inr (Or.inr (Or.inl e))
  · rcases h k e with q | q
    · exact Or.inr (Or.inr (Or.inr q))
    · omega
theorem Keep.xs {p bi bm : Nat} {a b c : World} {v v' : Value} (h : Keep (Xs p bi bm v) a b) (hn : NewB a v v') (g : Keep (Xs p bi bm v') b c) : Keep (Xs p bi bm v) a c :=
  ⟨g.os.trans h.os, g.tape.trans h.tape, g.output.trans h.output, Nat.le_trans h.size g.size, fun k hk hx => (g.block k (Nat.lt_of_lt_of_le hk h.size) (fun e => hx (xs_new hn hk e))).trans (h.block k hk hx)⟩
theorem NewB.trans {a b : World} {v v' v'' : Value} (h : NewB a v v') (hs : a.heap.size ≤ b.heap.size) (g : NewB b v' v'') : NewB a v v'' := fun k hk => by
  rcases g k hk with e | e
  · exact h k e
  · exact Or.inr (Nat.le_trans hs e)
theorem NewB.refl (w : World) (v : Value) : NewB w v v := fun _ hk => Or.inl hk
def run.B6 : List Nat := [0, 1, 3, 7, 0, 31, 63, 127, 255, 511, 1023, 2047, 4095, 8191, 16383, 32767, 65535, 131071, 262143, 524287, 1048575, 2097151, 262143, 4456447, 12845055, 29622271, 262143, 134217727, 268435455, 536870911]
def run.T7 : Bool × List (List Nat × List Nat) := (true, [([], []), ([0], [0]), ([1], [1]), ([2], [2]), ([], []), ([3, 4], [3, 4]), ([5], [5]), ([6], [6]), ([6], [6]), ([], []), ([9, 7, 5, 0, 1, 2, 3, 4, 5, 6, 7, 9], [7, 9]), ([8, 10, 0, 1, 2, 3, 4, 5, 6, 7, 8, 9, 10], [8])])
def run.B7 : List Nat := [0, 1, 3, 7, 0, 31, 63, 127, 127, 0, 767, 2047]
theorem run.tab7 : rtab .any (opsOf Try.f91 7) = run.T7 := by kernel_rfl
theorem run.bits7 : waitsOk run.T7.2 run.B7 = true := by kernel_rfl
def run.T13 : Bool × List (List Nat × List Nat) := (true, [([], []), ([0], [0]), ([1], [1]), ([2], [2]), ([], []), ([4], [4]), ([], []), ([3, 5, 6, 0, 1, 2, 3, 4, 5, 6], [3, 5, 6])])
def run.B13 : List Nat := [0, 1, 3, 7, 0, 16, 0, 127]
theorem run.tab13 : rtab .any (opsOf Try.f91 13) = run.T13 := by kernel_rfl
theorem run.bits13 : waitsOk run.T13.2 run.B13 = true := by kernel_rfl
/-- What the search is while it is laid out. -/
structure Pre (w : World) (A : Option Addr) (c n gp gi bm left : Nat) (W : World) : Prop where
  hp : W.heap[gp]? = some (.cells (srV A n c gi bm (.slice none 0 0) left) 174 (0, 0))
  hi : W.heap[gi]? = some (.cells (inV n []) 3 (0, 0))
  hm : MapK W bm 0 zK
  hb : Below w.heap.size w W
  bp : w.heap.size ≤ gp
  bbi : w.heap.size ≤ gi
  bbm : w.heap.size ≤ bm
  npi : gp ≠ gi
  npm : gp ≠ bm
  nim : gi ≠ bm
theorem Pre.below {w : World} {A : Option Addr} {c n gp gi bm left : Nat} {W W' : World} (h : Pre w A c n gp gi bm left W) (hb : Below W.heap.size W W') : Pre w A c n gp gi bm left W' :=
  ⟨blk_below h.hp hb, blk_below h.hi hb, h.hm.kept (grown_of hb) (by simp), h.hb.trans (hb.mono h.hb.size), h.bp, h.bbi, h.bbm, h.npi, h.npm, h.nim⟩
theorem Pre.grown {w : World} {A : Option Addr} {c n gp gi bm left : Nat} {W W' : World} (h : Pre w A c n gp gi bm left W) {g : Nat} (hg : W.grownBy W' (some g)) (h0 : w.heap.size ≤ g) (h1 : g ≠ gp) (h2 : g ≠ gi) (h3 : g ≠ bm) : Pre w A c n gp gi bm left W' :=
  ⟨blk_grown h.hp hg (by intro e; injection e with e; exact h1 e.symm), blk_grown h.hi hg (by intro e; injection e with e; exact h2 e.symm), h.hm.kept hg (by intro e; injection e with e; exact h3 e.symm), below_of_grown h.hb hg h0 h.hb.size, h.bp, h.bbi, h.bbm, h.npi, h.npm, h.nim⟩
theorem Pre.left {w : World} {A : Option Addr} {c n gp gi bm left left' : Nat} {W W' : World} (h : Pre w A c n gp gi bm left W) (hc : W'.heap[gp]? = some (.cells (srV A n c gi bm (.slice none 0 0) left') 174 (0, 0))) (hg : W.grownBy W' (some gp)) : Pre w A c n gp gi bm left' W' :=
  ⟨hc, blk_grown h.hi hg (by intro e; injection e with e; exact h.npi e.symm), h.hm.kept hg (by intro e; injection e with e; exact h.npm e.symm), below_of_grown h.hb hg h.bp h.hb.size, h.bp, h.bbi, h.bbm, h.npi, h.npm, h.nim⟩
theorem ref_two (l : List S39) : refF l = 0 ∨ refF l = 260 := by
  unfold refF
  split
  · exact .inl rfl
  · exact .inr rfl
theorem one_rep (W : World) (base : Nat) (x : S39) : Reps (k39.M W base (fun _ => True)) k39.sz [x] (callL x) := by
  have h := Reps.front (show Kd.M k39 W base (fun _ => True) x (callL x) from k39_mkM _ _ _ x) rfl (Reps.none (k39.M W base (fun _ => True)) k39.sz) rfl
  rw [List.append_nil] at h
  exact h
theorem one_R (W : World) (x : S39) : Kd.R k39 39 (W.alloc (.cells (callL x).toArray 39)) W.heap.size (fun _ => True) (.slice (some ⟨W.heap.size, 0, none⟩) 1 1) [x] := by
  refine ⟨fun k hk => trivial, callL x, ?_, ?_⟩
  · have h2 := World.ownsRow_lit (base := W.heap.size) (e := 39) (size := k39.sz) W (callL x).toArray 1 (Nat.le_refl _) (by decide) (by rfl)
    have h3 : (W.alloc (.cells (callL x).toArray 39)).ownsRow W.heap.size 39 k39.sz (.slice (some ⟨W.heap.size, 0, none⟩) 1 1) 1 (callL x) := by simpa using h2
    exact h3
  · refine (one_rep W W.heap.size x).imp_ (fun p c hp => k39.M_mono (fun k hk => ⟨trivial, fun he => ?_⟩) (Kd.M_below (k39.M_bound hp) (below_alloc (Below.refl _ _) _)))
    have h3 : k = W.heap.size := by simpa [Value.ownBlock] using he
    have := hk.2.2.1
    omega
theorem one_C (W : World) (x : S39) : Kd.C k39 (W.alloc (.cells (callL x).toArray 39)) (some ⟨W.heap.size, 0, none⟩) 1 [x] := (Kd.R_reads' (one_R W x)).2.2
def setL (cs : Array Value) : Nat → List Value → Array Value
  | _, [] => cs
  | o, v :: r => setL (cs.setIfInBounds o v) (o + 1) r
theorem setCells_blk {g : Nat} {t : TypeId} : ∀ (vs : List Value) (o : Nat) (w : World) (cs : Array Value), w.heap[g]? = some (.cells cs t (0, 0)) → (w.setCells g o vs).heap[g]? = some (.cells (setL cs o vs) t (0, 0)) ∧ w.grownBy (w.setCells g o vs) (some g)
  | [], _, w, _, h => ⟨h, ⟨rfl, rfl, rfl, Nat.le_refl _, fun _ _ _ => rfl⟩⟩
  | v :: r, o, w, cs, h => by
    obtain ⟨h1, h2⟩ := setCells_blk r (o + 1) (w.setCell ⟨g, o, none⟩ v) _ (blk_set h o v)
    refine ⟨h1, h2.os, h2.tape, h2.output, ?_, fun k hk hne => ?_⟩
    · have h3 := h2.size
      have h4 : (w.setCell ⟨g, o, none⟩ v).heap.size = w.heap.size := by simp [World.setCell]
      rw [h4] at h3
      exact h3
    · have h4 : (w.setCell ⟨g, o, none⟩ v).heap.size = w.heap.size := by simp [World.setCell]
      exact (h2.block k (by rw [h4]; exact hk) hne).trans (Below.heap_setCell w _ v k (fun e => hne (by rw [e])))
theorem store_mid_event {P : Program} {ops : Array Oper} {rest : List Oper} {o : Oper} {a : Act} {w : World} {Q : Exit → Act → World → Prop} (hgd : o.guard = none) (ty : TypeId) (x y : Operand) (ho : o.op = .store ty x y)
    (g i : Nat) (cells : Array Value) (hx : a.eval x = .pointer (some ⟨g, i, none⟩)) (hy : a.eval y = .agg cells) (t : TypeId) (cs : Array Value) (hg : w.heap[g]? = some (.cells cs t (0, 0))) (hl : i + cells.size ≤ cs.size)
    (hi : (P.info? ty).map (·.size) = some cells.size) (h1 : cells.all (·.oneCell') = true)
    (h : ∀ w', w'.heap[g]? = some (.cells (setL cs i cells.toList) t (0, 0)) → w.grownBy w' (some g) → wpList P ops Q rest (a.put o.dst undef) w') : wpList P ops Q (o :: rest) a w := by
  obtain ⟨h2, h3⟩ := setCells_blk cells.toList i w cs hg
  exact wpList_store_mid hgd ty x y ho g i cells hx hy (fun j hj => ⟨by rw [blk_cell hg, Option.isSome_iff_exists]; exact ⟨cs[i + j], by simp⟩, blk_frozen hg _⟩) hi h1 (h _ h2 h3)
/-- What is told of a row. -/
structure Ask where
  kind : Int
  client : Int
  number : Int
  read : Bool
  key : ByteArray
  op : S32
  res : S35
  row : S37
  found : Bool
/-- The call that a row asks. -/
def askC (r : Ask) (i : Int) : S39 := ⟨r.client, r.number, r.read, if r.read then r.key else r.op.f1, r.op, i, -1, ⟨0, 0⟩, ⟨⟨#[]⟩, ⟨#[]⟩, 0⟩, false⟩
/-- Is a call the one that a row answers? -/
def mtB (r : Ask) (c : S39) : Bool := c.f6 == -1 && (c.f0 == r.client && (c.f1 == r.number && (c.f2 == r.read)))
/-- The call behind a row's answer. -/
def ansC (r : Ask) (i : Int) (c : S39) : S39 := if r.read then (if r.found then ⟨c.f0, c.f1, c.f2, c.f3, c.f4, c.f5, i, c.f7, r.row, true⟩ else ⟨c.f0, c.f1, c.f2, c.f3, c.f4, c.f5, i, c.f7, c.f8, c.f9⟩) else ⟨c.f0, c.f1, c.f2, c.f3, c.f4, c.f5, i, r.res, c.f8, c.f9⟩
/-- The last place below n of a call that is p; -1: none. -/
def lstK (p : S39 → Bool) (l : List S39) : Nat → Int
  | 0 => -1
  | n + 1 => if p (cl l n) then (n : Int) else lstK p l n
/-- The first place from k on. -/
def fstK (p : S39 → Bool) : List S39 → Nat → Int
  | [], _ => -1
  | c :: t, k => if p c then (k : Int) else fstK p t (k + 1)
def lstI (p : S39 → Bool) (l : List S39) : Int := lstK p l l.length
def fstI (p : S39 → Bool) (l : List S39) : Int := fstK p l 0
def stepW (f : (S39 → Bool) → List S39 → Int) (i : Int) (r : Ask) (l : List S39) : Option (List S39) :=
  if r.kind = 1 then some (l ++ [askC r i]) else if r.kind = 2 then (if f (mtB r) l < 0 then none else some (l.set (f (mtB r) l).toNat (ansC r i (cl l (f (mtB r) l).toNat)))) else some l
def runW (f : (S39 → Bool) → List S39 → Int) : List Ask → Int → List S39 → Option (List S39)
  | [], _, l => some l
  | r :: t, i, l => match stepW f i r l with
    | none => none
    | some l2 => runW f t (i + 1) l2
/-- What Calls answers. -/
def outW (rf : List S39 → Int) : Option (List S39) → List S39 × Int
  | none => ([], 260)
  | some l => if rf l = 0 then (l, 0) else ([], 260)
/-- Two calls of one client with one number. -/
def dupL (l : List S39) : Prop := ∃ k i : Nat, k < i ∧ i < l.length ∧ (cl l k).f0 = (cl l i).f0 ∧ (cl l k).f1 = (cl l i).f1
theorem cl_app (l t : List S39) {k : Nat} (h : k < l.length) : cl (l ++ t) k = cl l k := by
  unfold cl
  rw [List.getD_eq_getElem?_getD, List.getD_eq_getElem?_getD, List.getElem?_append_left h]
theorem cl_set (l : List S39) (j k : Nat) (x : S39) : cl (l.set j x) k = if j = k ∧ k < l.length then x else cl l k := by
  unfold cl
  rw [List.getD_eq_getElem?_getD, List.getD_eq_getElem?_getD, List.getElem?_set]
  by_cases e : j = k
  · subst e
    by_cases h : j < l.length
    · simp [h]
    · simp [h]
  · simp [e]
theorem lstK_at (p : S39 → Bool) (l : List S39) : ∀ n, (lstK p l n = -1 ∧ ∀ k, k < n → p (cl l k) = false) ∨ (∃ k, k < n ∧ lstK p l n = (k : Int) ∧ p (cl l k) = true) := by
  intro n
  induction n with
  | zero => exact .inl ⟨rfl, fun k hk => absurd hk (Nat.not_lt_zero _)⟩
  | succ n ih =>
    cases hp : p (cl l n) with
    | true => exact .inr ⟨n, by omega, by rw [lstK, if_pos hp], hp⟩
    | false =>
      have e : lstK p l (n + 1) = lstK p l n := by rw [lstK, if_neg (by rw [hp]; decide)]
      rw [e]
      rcases ih with ⟨h1, h2⟩ | ⟨k, h1, h2, h3⟩
      · refine .inl ⟨h1, fun k hk => ?_⟩
        by_cases ek : k = n
        · rw [ek]; exact hp
        · exact h2 k (by omega)
      · exact .inr ⟨k, by omega, h2, h3⟩
theorem fstK_at (p : S39 → Bool) : ∀ (l : List S39) (o : Nat), (fstK p l o = -1 ∧ ∀ k, k < l.length → p (cl l k) = false) ∨ (∃ k, k < l.length ∧ fstK p l o = ((o + k : Nat) : Int) ∧ p (cl l k) = true) := by
  intro l
  induction l with
  | nil => intro o; exact .inl ⟨rfl, fun k hk => absurd hk (Nat.not_lt_zero _)⟩
  | cons c t ih =>
    intro o
    cases hp : p c with
    | true => exact .inr ⟨0, by simp, by rw [fstK, if_pos hp]; rfl, hp⟩
    | false =>
      have e : fstK p (c :: t) o = fstK p t (o + 1) := by rw [fstK, if_neg (by rw [hp]; decide)]
      rw [e]
      rcases ih (o + 1) with ⟨h1, h2⟩ | ⟨k, h1, h2, h3⟩
      · refine .inl ⟨h1, fun k hk => ?_⟩
        cases k with
        | zero => exact hp
        | succ k => exact h2 k (by simpa using hk)
      · exact .inr ⟨k + 1, by simpa using h1, by rw [h2]; congr 1; omega, h3⟩
/-- The first place, as a loop finds it. -/
theorem fstI_hit {p : S39 → Bool} : ∀ {l : List S39} {o k : Nat}, k < l.length → p (cl l k) = true → (∀ j, j < k → p (cl l j) = false) → fstK p l o = ((o + k : Nat) : Int) := by
  intro l
  induction l with
  | nil => intro o k h; exact absurd h (Nat.not_lt_zero _)
  | cons c t ih =>
    intro o k h hp hn
    cases k with
    | zero => rw [fstK, if_pos (show p c = true from hp)]; rfl
    | succ k =>
      have h0 : p c = false := hn 0 (by omega)
      rw [fstK, if_neg (by rw [h0]; decide), ih (o := o + 1) (k := k) (by simpa using h) hp (fun j hj => hn (j + 1) (by omega))]
      congr 1; omega
theorem fstI_none {p : S39 → Bool} : ∀ {l : List S39} {o : Nat}, (∀ j, j < l.length → p (cl l j) = false) → fstK p l o = -1 := by
  intro l
  induction l with
  | nil => intro o _; rfl
  | cons c t ih =>
    intro o hn
    have h0 : p c = false := hn 0 (by simp)
    rw [fstK, if_neg (by rw [h0]; decide)]
    exact ih (fun j hj => hn (j + 1) (by simpa using hj))
theorem mt_id {r : Ask} {c : S39} (h : mtB r c = true) : c.f0 = r.client ∧ c.f1 = r.number := by
  unfold mtB at h
  simp only [Bool.and_eq_true, beq_iff_eq] at h
  exact ⟨h.2.1, h.2.2.1⟩
theorem first_last {r : Ask} {l : List S39} (h : ¬ dupL l) : fstI (mtB r) l = lstI (mtB r) l := by
  unfold fstI lstI
  rcases fstK_at (mtB r) l 0 with ⟨h1, h2⟩ | ⟨k, h1, h2, h3⟩
  · rcases lstK_at (mtB r) l l.length with ⟨g1, g2⟩ | ⟨j, g1, g2, g3⟩
    · rw [h1, g1]
    · rw [h2 j g1] at g3; cases g3
  · rcases lstK_at (mtB r) l l.length with ⟨g1, g2⟩ | ⟨j, g1, g2, g3⟩
    · rw [g2 k h1] at h3; cases h3
    · have e : j = k := by
        have a := mt_id h3
        have b := mt_id g3
        rcases Nat.lt_trichotomy j k with x | x | x
        · exact absurd ⟨j, k, x, h1, b.1.trans a.1.symm, b.2.trans a.2.symm⟩ h
        · exact x
        · exact absurd ⟨k, j, x, g1, a.1.trans b.1.symm, a.2.trans b.2.symm⟩ h
      rw [h2, g2, e, Nat.zero_add]
theorem dup_step {f : (S39 → Bool) → List S39 → Int} {i : Int} {r : Ask} {l l2 : List S39} (h : dupL l) (hs : stepW f i r l = some l2) : dupL l2 := by
  obtain ⟨k, j, h1, h2, h3, h4⟩ := h
  unfold stepW at hs
  split at hs
  · obtain rfl := Option.some.inj hs
    refine ⟨k, j, h1, by rw [List.length_append]; omega, ?_, ?_⟩
    · rw [cl_app _ _ (by omega), cl_app _ _ h2]; exact h3
    · rw [cl_app _ _ (by omega), cl_app _ _ h2]; exact h4
  · split at hs
    · split at hs
      · cases hs
      · obtain rfl := Option.some.inj hs
        have hid : ∀ m, (cl (l.set (f (mtB r) l).toNat (ansC r i (cl l (f (mtB r) l).toNat))) m).f0 = (cl l m).f0 ∧ (cl (l.set (f (mtB r) l).toNat (ansC r i (cl l (f (mtB r) l).toNat))) m).f1 = (cl l m).f1 := by
          intro m
          rw [cl_set]
          split
          · rename_i e
            obtain ⟨e1, e2⟩ := e
            subst e1
            unfold ansC
            split
            · split <;> exact ⟨rfl, rfl⟩
            · exact ⟨rfl, rfl⟩
          · exact ⟨rfl, rfl⟩
        refine ⟨k, j, h1, by rw [List.length_set]; exact h2, ?_, ?_⟩
        · rw [(hid k).1, (hid j).1]; exact h3
        · rw [(hid k).2, (hid j).2]; exact h4
    · obtain rfl := Option.some.inj hs
      exact ⟨k, j, h1, h2, h3, h4⟩
theorem dup_out {rf : List S39 → Int} (hd : ∀ l, dupL l → rf l = 260) (f : (S39 → Bool) → List S39 → Int) : ∀ (rows : List Ask) (i : Int) (l : List S39), dupL l → outW rf (runW f rows i l) = ([], 260) := by
  intro rows
  induction rows with
  | nil => intro i l h; show (if rf l = 0 then (l, (0 : Int)) else ([], 260)) = ([], 260); rw [if_neg (by rw [hd l h]; decide)]
  | cons r t ih =>
    intro i l h
    unfold runW
    cases hs : stepW f i r l with
    | none => rfl
    | some l2 => exact ih (i + 1) l2 (dup_step h hs)
/-- Both ways answer the same. -/
theorem calls_both {rf : List S39 → Int} (hd : ∀ l, dupL l → rf l = 260) : ∀ (rows : List Ask) (i : Int) (l : List S39), outW rf (runW fstI rows i l) = outW rf (runW lstI rows i l) := by
  intro rows
  induction rows with
  | nil => intro i l; rfl
  | cons r t ih =>
    intro i l
    by_cases h : dupL l
    · rw [dup_out hd fstI _ i l h, dup_out hd lstI _ i l h]
    · have e : stepW fstI i r l = stepW lstI i r l := by unfold stepW; rw [first_last h]
      unfold runW
      rw [e]
      cases stepW lstI i r l with
      | none => rfl
      | some l2 => exact ih (i + 1) l2
theorem runW_drop {f : (S39 → Bool) → List S39 → Int} {rows : List Ask} {i : Nat} (h : i < rows.length) (l : List S39) : runW f (rows.drop i) (i : Int) l = match stepW f (i : Int) rows[i] l with | none => none | some l2 => runW f (rows.drop (i + 1)) ((i + 1 : Nat) : Int) l2 := by
  rw [List.drop_eq_getElem_cons h, runW]
  rfl
theorem dup_bad {l : List S39} (h : dupL l) : refF l = 260 := by
  obtain ⟨k, i, h1, h2, h3, h4⟩ := h
  refine refF_bad (i : Int) (by omega) (by omega) (fun hh => ?_)
  have h5 := (hh.2 (k : Int) (by omega) (by omega)).2
  unfold bad3 at h5
  rw [rd_cl, rd_cl, h3, h4] at h5
  have h6 : decide ((k : Int) < (i : Int)) = true := decide_eq_true (by omega)
  rw [h6] at h5
  simp at h5
theorem step_len {f : (S39 → Bool) → List S39 → Int} {i : Int} {r : Ask} {l l2 : List S39} (hs : stepW f i r l = some l2) : l2.length ≤ l.length + 1 := by
  unfold stepW at hs
  split at hs
  · obtain rfl := Option.some.inj hs
    simp
  · split at hs
    · split at hs
      · cases hs
      · obtain rfl := Option.some.inj hs
        simp
    · obtain rfl := Option.some.inj hs
      omega
theorem step_wf {f : (S39 → Bool) → List S39 → Int} {i : Int} {r : Ask} {l l2 : List S39} (hi : (Lit.int .i64 i).wf = true) (h : ∀ x ∈ l, wfC x) (hs : stepW f i r l = some l2) : ∀ x ∈ l2, wfC x := by
  unfold stepW at hs
  split at hs
  · obtain rfl := Option.some.inj hs
    intro x hx
    rcases List.mem_append.mp hx with hx | hx
    · exact h x hx
    · obtain rfl := List.mem_singleton.mp hx
      exact ⟨hi, rfl⟩
  · split at hs
    · split at hs
      · cases hs
      · obtain rfl := Option.some.inj hs
        rename_i hneg
        intro x hx
        rcases List.mem_or_eq_of_mem_set hx with hx | rfl
        · exact h x hx
        · have hc : wfC (cl l (f (mtB r) l).toNat) := by
            unfold cl
            rw [List.getD_eq_getElem?_getD]
            cases hq : l[(f (mtB r) l).toNat]? with
            | none => exact ⟨rfl, rfl⟩
            | some y => exact h y (List.mem_of_getElem? hq)
          unfold ansC
          split
          · split <;> exact ⟨hc.1, hi⟩
          · exact ⟨hc.1, hi⟩
    · obtain rfl := Option.some.inj hs
      exact h
theorem set_mid {p m q : List Value} {o j : Nat} (hp : p.length = o) (v : Value) (hj : j < m.length) : (p ++ m ++ q).toArray.setIfInBounds (o + j) v = (p ++ m.set j v ++ q).toArray := by
  subst hp
  rw [List.setIfInBounds_toArray, List.append_assoc, List.set_append_right _ _ (by omega), Nat.add_sub_cancel_left, List.set_append_left _ _ hj, List.append_assoc]
/-- An element's cell in a row of the call's own is written. -/
theorem elem_cell_event {P : Program} {ops : Array Oper} {rest : List Oper} {o : Oper} {a : Act} {w : World} {Q : Exit → Act → World → Prop} (hgd : o.guard = none) (ty : TypeId) (x y : Operand) (ho : o.op = .store ty x y)
    (g b j : Nat) (v : Value) (hx : a.eval x = .pointer (some ⟨g, b + j, none⟩)) (hy : a.eval y = v) (t : TypeId) (p m q : List Value) (hp : p.length = b) (hg : w.heap[g]? = some (.cells (p ++ m ++ q).toArray t (0, 0))) (hj : j < m.length)
    (hs : (P.info? ty).map (·.size) = some 1) (h1 : v.oneCell' = true) (hc : v.cells = #[v])
    (h : ∀ w', w'.heap[g]? = some (.cells (p ++ m.set j v ++ q).toArray t (0, 0)) → w.grownBy w' (some g) → wpList P ops Q rest (a.put o.dst undef) w') : wpList P ops Q (o :: rest) a w :=
  store_cell_event hgd ty x y ho g (b + j) v hx hy t _ hg (by simp; omega) hs h1 hc (fun w' h2 h3 => h w' (by rw [h2, set_mid hp v hj]) h3)
def setLs (m : List Value) : Nat → List Value → List Value
  | _, [] => m
  | j, v :: r => setLs (m.set j v) (j + 1) r
theorem setL_mid {p q : List Value} {o : Nat} (hp : p.length = o) : ∀ (vs m : List Value) (j : Nat), j + vs.length ≤ m.length → setL (p ++ m ++ q).toArray (o + j) vs = (p ++ setLs m j vs ++ q).toArray
  | [], _, _, _ => rfl
  | v :: r, m, j, h => by
    have h2 : j + (r.length + 1) ≤ m.length := h
    rw [setL, set_mid hp v (by omega), show o + j + 1 = o + (j + 1) by omega, setL_mid hp r (m.set j v) (j + 1) (by rw [List.length_set]; omega), setLs]
theorem elem_mid_event {P : Program} {ops : Array Oper} {rest : List Oper} {o : Oper} {a : Act} {w : World} {Q : Exit → Act → World → Prop} (hgd : o.guard = none) (ty : TypeId) (x y : Operand) (ho : o.op = .store ty x y)
    (g b j : Nat) (cells : Array Value) (hx : a.eval x = .pointer (some ⟨g, b + j, none⟩)) (hy : a.eval y = .agg cells) (t : TypeId) (p m q : List Value) (hp : p.length = b) (hg : w.heap[g]? = some (.cells (p ++ m ++ q).toArray t (0, 0))) (hj : j + cells.size ≤ m.length)
    (hi : (P.info? ty).map (·.size) = some cells.size) (h1 : cells.all (·.oneCell') = true)
    (h : ∀ w', w'.heap[g]? = some (.cells (p ++ setLs m j cells.toList ++ q).toArray t (0, 0)) → w.grownBy w' (some g) → wpList P ops Q rest (a.put o.dst undef) w') : wpList P ops Q (o :: rest) a w :=
  store_mid_event hgd ty x y ho g (b + j) cells hx hy t _ hg (by simp; omega) hi h1 (fun w' h2 h3 => h w' (by rw [h2, setL_mid hp _ _ _ (by simpa using hj)]) h3)
/-- A row of calls of the call's own, one of them set apart. -/
theorem R_split {W : World} {base : Nat} {v : Value} {l : List S39} (h : Kd.R k39 39 W base (fun _ => True) v l) (k : Nat) (hk : k < l.length) :
    ∃ g cap p q, v = .slice (some ⟨g, 0, none⟩) l.length cap ∧ base ≤ g ∧ l.length ≤ cap ∧ p.length = k * 16 ∧ W.heap[g]? = some (.cells (p ++ callL (cl l k) ++ q).toArray 39 (0, 0)) ∧
      ∀ (W' : World) (x : S39), W'.heap[g]? = some (.cells (p ++ callL x ++ q).toArray 39 (0, 0)) → Kd.R k39 39 W' base (fun _ => True) v (l.set k x) := by
  obtain ⟨_, inner, ⟨hlen, hown⟩, hrl, hrep⟩ := h
  rcases hown with ⟨_, h0⟩ | ⟨g, cap, cur, rfl, hbg, hg, hc1, hc2, hcs, htk⟩
  · omega
  · have hsz : k39.sz = 16 := rfl
    rw [hsz] at hlen hrl htk hcs hrep
    have hin : ∀ (i : Nat) (x : S39), l[i]? = some x → (inner.drop (i * 16)).take 16 = callL x := fun i x hx => by
      have h2 := k39.K_of_M (hrep i x hx)
      exact k39_open h2
    have hcl : l[k]? = some (cl l k) := by
      unfold cl
      rw [List.getD_eq_getElem?_getD, List.getElem?_eq_getElem hk]
      rfl
    have hk16 : k * 16 + 16 ≤ l.length * 16 := by omega
    have hL : cur.toList.length = cap * 16 := by simpa using hcs
    have hmid : (cur.toList.drop (k * 16)).take 16 = callL (cl l k) := by
      rw [← hin k _ hcl, ← htk, List.drop_take, List.take_take, Nat.min_eq_left (by omega)]
    have hsp : cur.toList = cur.toList.take (k * 16) ++ callL (cl l k) ++ cur.toList.drop (k * 16 + 16) := by
      rw [← hmid, List.append_assoc, ← List.drop_drop, List.take_append_drop, List.take_append_drop]
    refine ⟨g, cap, cur.toList.take (k * 16), cur.toList.drop (k * 16 + 16), rfl, hbg, hc1, by rw [List.length_take]; omega, ?_, fun W' x hW => ?_⟩
    · rw [← hsp, Array.toArray_toList]
      exact hg
    · have hx16 : (callL x).length = 16 := rfl
      have hp16 : (cur.toList.take (k * 16)).length = k * 16 := by rw [List.length_take]; omega
      have hnew : ∀ i, i < l.length → (((cur.toList.take (k * 16) ++ callL x ++ cur.toList.drop (k * 16 + 16)).take (l.length * 16)).drop (i * 16)).take 16 = if i = k then callL x else (inner.drop (i * 16)).take 16 := fun i hi => by
        rw [List.drop_take, List.take_take, Nat.min_eq_left (by omega)]
        by_cases e : i = k
        · subst e
          rw [if_pos rfl, List.append_assoc, List.drop_append_of_le_length (by omega), List.drop_of_length_le (by omega), List.nil_append, List.take_append_of_le_length (by omega), List.take_of_length_le (by omega)]
        · rw [if_neg e, ← htk, List.drop_take, List.take_take, Nat.min_eq_left (by omega)]
          refine List.ext_getElem? (fun m => ?_)
          rw [List.getElem?_take, List.getElem?_take]
          by_cases hm : m < 16
          · rw [if_pos hm, if_pos hm, List.getElem?_drop, List.getElem?_drop]
            rcases Nat.lt_or_ge i k with hik | hik
            · rw [List.append_assoc, List.getElem?_append_left (by omega), List.getElem?_take, if_pos (by omega)]
            · rw [List.getElem?_append_right (by rw [List.length_append]; omega), List.getElem?_drop, List.length_append, hp16, hx16]
              congr 1
              omega
          · rw [if_neg hm, if_neg hm]
      refine ⟨fun _ _ => trivial, (cur.toList.take (k * 16) ++ callL x ++ cur.toList.drop (k * 16 + 16)).take (l.length * 16), ⟨?_, .inr ⟨g, cap, _, by rw [List.length_set], hbg, hW, by rw [List.length_set]; exact hc1, hc2, ?_, ?_⟩⟩, ?_, fun i y hy => ?_⟩
      · rw [hsz, List.length_set, List.length_take, List.length_append, List.length_append, hp16, hx16, List.length_drop]
        omega
      · rw [hsz]
        simp
        omega
      · rw [hsz, List.length_set]
      · rw [hsz, List.length_set, List.length_take, List.length_append, List.length_append, hp16, hx16, List.length_drop]
        omega
      · have hi : i < l.length := by
          have h3 := (List.getElem?_eq_some_iff.mp hy).1
          simpa using h3
        rw [hsz, hnew i hi]
        by_cases e : i = k
        · subst e
          rw [if_pos rfl]
          rw [List.getElem?_set_self hi] at hy
          obtain rfl := Option.some.inj hy
          exact k39_mkM _ _ _ _
        · rw [if_neg e]
          rw [List.getElem?_set_ne (by omega)] at hy
          rw [hin i y hy]
          exact k39_mkM _ _ _ _
theorem wp_elem_cell {P : Program} {o : Oper} {a : Act} {w : World} {K : Act → World → Prop} {Q : Exit → Act → World → Prop} (ty : TypeId) (x y : Operand) (ho : o.op = .store ty x y)
    (g b j : Nat) (v : Value) (hx : a.eval x = .pointer (some ⟨g, b + j, none⟩)) (hy : a.eval y = v) (t : TypeId) (p m q : List Value) (hp : p.length = b) (hg : w.heap[g]? = some (.cells (p ++ m ++ q).toArray t (0, 0))) (hj : j < m.length)
    (hs : (P.info? ty).map (·.size) = some 1) (h1 : v.oneCell' = true) (hc : v.cells = #[v])
    (h : ∀ w', w'.heap[g]? = some (.cells (p ++ m.set j v ++ q).toArray t (0, 0)) → w.grownBy w' (some g) → K (a.put o.dst undef) w') : o.wp P a w K Q :=
  wp_store_cell ty x y ho g (b + j) v hx hy t _ hg (by simp; omega) hs h1 hc (fun w' h2 h3 => h w' (by rw [h2, set_mid hp v hj]) h3)
theorem wp_elem_mid {P : Program} {o : Oper} {a : Act} {w : World} {K : Act → World → Prop} {Q : Exit → Act → World → Prop} (ty : TypeId) (x y : Operand) (ho : o.op = .store ty x y)
    (g b j : Nat) (cells : Array Value) (hx : a.eval x = .pointer (some ⟨g, b + j, none⟩)) (hy : a.eval y = .agg cells) (t : TypeId) (p m q : List Value) (hp : p.length = b) (hg : w.heap[g]? = some (.cells (p ++ m ++ q).toArray t (0, 0))) (hj : j + cells.size ≤ m.length)
    (hi : (P.info? ty).map (·.size) = some cells.size) (h1 : cells.all (·.oneCell') = true)
    (h : ∀ w', w'.heap[g]? = some (.cells (p ++ setLs m j cells.toList ++ q).toArray t (0, 0)) → w.grownBy w' (some g) → K (a.put o.dst undef) w') : o.wp P a w K Q := by
  obtain ⟨h2, h3⟩ := setCells_blk cells.toList (b + j) w _ hg
  rw [setL_mid hp _ _ _ (by simpa using hj)] at h2
  exact wp_store_mid ty x y ho g (b + j) cells hx hy (fun i hi => ⟨by rw [blk_cell hg, Option.isSome_iff_exists]; have hb : b + j + i < (p ++ m ++ q).toArray.size := (by simp only [List.size_toArray, List.length_append]; omega); exact ⟨_, Array.getElem?_eq_getElem hb⟩, blk_frozen hg _⟩) hi h1 (h _ h2 h3)
end Go.Proofs.Ytbakmkoppieelaa.PLinearChecks

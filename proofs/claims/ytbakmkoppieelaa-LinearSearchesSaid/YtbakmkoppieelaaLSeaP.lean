/- What is proved: words for the search's record in memory. -/
import Derived.Test.YtbakmkoppieelaaLSeaR
import Derived.Laws.IdiomCopy
namespace Go.Proofs.Ytbakmkoppieelaa.PLinearChecks
open Go.RowKit Go.Proofs.YtbakmkoppieelaaW.PrintWords Go.Proofs.YtbakmkoppieelaaW.PrintLast Go.Proofs.YtbakmkoppieelaaW.PrintMore
set_option linter.unusedVariables false
set_option linter.unusedSimpArgs false
theorem wp_store_cell {P : Program} {o : Oper} {a : Act} {w : World} {K : Act → World → Prop} {Q : Exit → Act → World → Prop} (ty : TypeId) (x y : Operand) (ho : o.op = .store ty x y)
    (g i : Nat) (v : Value) (hx : a.eval x = .pointer (some ⟨g, i, none⟩)) (hy : a.eval y = v) (t : TypeId) (cs : Array Value) (hg : w.heap[g]? = some (.cells cs t (0, 0))) (hi : i < cs.size)
    (hs : (P.info? ty).map (·.size) = some 1) (h1 : v.oneCell' = true) (hc : v.cells = #[v])
    (h : ∀ w', w'.heap[g]? = some (.cells (cs.setIfInBounds i v) t (0, 0)) → w.grownBy w' (some g) → K (a.put o.dst undef) w') : o.wp P a w K Q := by
  have hcell : w.cell? ⟨g, i + 0 + 0, none⟩ = some cs[i] := by rw [blk_cell hg]; simp [hi]
  have hrun : (storeVar ty ⟨g, i, none⟩ v).run P w = .ok () (w.setCell ⟨g, i, none⟩ v) := by
    have h2 := run_storeCells_cells (P := P) g i [v] 0 w (fun j hj => by
      obtain rfl : j = 0 := by simpa using hj
      rw [hcell]; rfl) (fun j hj => by
      obtain rfl : j = 0 := by simpa using hj
      exact blk_frozen hg _) (fun u hu => by
      have hu := List.mem_singleton.mp hu
      subst hu
      exact h1)
    cases hq : P.info? ty with
    | none => simp [hq] at hs
    | some d =>
      have hd : d.size = 1 := by simpa [hq] using hs
      simp only [storeVar, sizeOf, typeInfo, hq, hc, Sem.run_bind, Sem.run_pure, Result.andThen_ok, hd]
      simp [hc, hd, hq, typeInfo, h2, World.setCells]
  unfold Oper.wp execOp
  simp only [ho, hx, hy, Instr.storeAt, Instr.sureAddr, Sem.run_bind, Sem.run_pure, Result.andThen_ok, hrun]
  refine h _ (blk_set hg i v) ⟨rfl, rfl, rfl, by simp [World.setCell], fun k hk hne => ?_⟩
  exact Below.heap_setCell w _ v k (fun e => hne (by rw [e]))
theorem store_cell_event {P : Program} {ops : Array Oper} {rest : List Oper} {o : Oper} {a : Act} {w : World} {Q : Exit → Act → World → Prop} (hgd : o.guard = none) (ty : TypeId) (x y : Operand) (ho : o.op = .store ty x y)
    (g i : Nat) (v : Value) (hx : a.eval x = .pointer (some ⟨g, i, none⟩)) (hy : a.eval y = v) (t : TypeId) (cs : Array Value) (hg : w.heap[g]? = some (.cells cs t (0, 0))) (hi : i < cs.size)
    (hs : (P.info? ty).map (·.size) = some 1) (h1 : v.oneCell' = true) (hc : v.cells = #[v])
    (h : ∀ w', w'.heap[g]? = some (.cells (cs.setIfInBounds i v) t (0, 0)) → w.grownBy w' (some g) → wpList P ops Q rest (a.put o.dst undef) w') : wpList P ops Q (o :: rest) a w :=
  wpList_plain hgd fun K hK => wp_store_cell ty x y ho g i v hx hy t cs hg hi hs h1 hc (fun w' a b => hK _ _ (h w' a b))
theorem wpList_load_cell {P : Program} {ops : Array Oper} {rest : List Oper} {o : Oper} {a : Act} {w : World} {Q : Exit → Act → World → Prop} (hgd : o.guard = none) (ty : TypeId) (x : Operand) (ho : o.op = .load ty x)
    (g i : Nat) (hx : a.eval x = .pointer (some ⟨g, i, none⟩)) (t : TypeId) (cs : Array Value) (hg : w.heap[g]? = some (.cells cs t (0, 0))) (v : Value) (hv : cs[i]? = some v) (d : TypeDesc) (hu : P.underlying ty = some d) (hd : d.isRow = false)
    (h : wpList P ops Q rest (a.put o.dst v) w) : wpList P ops Q (o :: rest) a w := by
  refine wpList_plain hgd fun K hK => ?_
  have hcell : w.cell? ⟨g, i, none⟩ = some v := (blk_cell hg i).trans hv
  have hrun : (loadVar ty ⟨g, i, none⟩).run P w = .ok v w := by
    have hagg : (isAgg ty).run P w = .ok false w := by
      unfold isAgg
      rw [Sem.run_bind, run_underlying hu w]
      cases d <;> simp_all
    simp [loadVar, Sem.run_bind, hagg, run_load, hcell]
  unfold Oper.wp execOp
  simp only [ho, hx, Instr.loadAt, Instr.sureAddr, Sem.run_bind, Sem.run_pure, Result.andThen_ok, hrun]
  exact hK _ _ h
def leftN (l : List S39) (o : List Nat) : Nat := ((List.range l.length).filter fun k => ansB (cl l k) && !o.contains k).length
theorem left_zero {l : List S39} {o : List Nat} : leftN l o = 0 ↔ whlB l o = true := by
  unfold leftN whlB
  rw [List.length_eq_zero_iff, List.filter_eq_nil_iff, List.all_eq_true]
  constructor
  · intro h k hk
    have := h k hk
    cases ha : ansB (cl l k) with
    | false => rfl
    | true =>
      rw [ha] at this
      simpa using this
  · intro h k hk
    have := h k hk
    cases ha : ansB (cl l k) with
    | false => simp
    | true =>
      rw [ha] at this
      simpa using this
theorem filter_pick {p q : Nat → Bool} {i : Nat} : ∀ (L : List Nat), L.Nodup → i ∈ L → p i = true → q i = false → (∀ k, k ≠ i → p k = q k) → (L.filter p).length = (L.filter q).length + 1 := by
  intro L
  induction L with
  | nil => intro _ h; cases h
  | cons x t ih =>
    intro hn hi hp hq hk
    rw [List.nodup_cons] at hn
    by_cases e : x = i
    · subst e
      have ht : t.filter p = t.filter q := by
        apply List.filter_congr
        intro k hkt
        exact hk k (fun e => hn.1 (e ▸ hkt))
      rw [List.filter_cons_of_pos hp, List.filter_cons_of_neg (by rw [hq]; decide), ht]
      rfl
    · have hit : i ∈ t := by
        rcases List.mem_cons.mp hi with h | h
        · exact absurd h.symm e
        · exact h
      have h2 := ih hn.2 hit hp hq hk
      have h3 := hk x e
      cases hx : p x with
      | true => rw [List.filter_cons_of_pos hx, List.filter_cons_of_pos (by rw [← h3]; exact hx)]; simp [h2]
      | false => rw [List.filter_cons_of_neg (by rw [hx]; decide), List.filter_cons_of_neg (by rw [← h3, hx]; decide)]; exact h2
theorem left_ans {l : List S39} {o : List Nat} {i : Nat} (hi : i < l.length) (ho : o.contains i = false) (ha : ansB (cl l i) = true) : leftN l o = leftN l (o ++ [i]) + 1 := by
  unfold leftN
  refine filter_pick (i := i) _ List.nodup_range (List.mem_range.mpr hi) (by rw [ha, ho]; rfl) ?_ (fun k hk => ?_)
  · simp
  · have : ((o ++ [i]).contains k) = o.contains k := by
      rw [Bool.eq_iff_iff]
      simp [hk]
    rw [this]
theorem left_not {l : List S39} {o : List Nat} {i : Nat} (ha : ansB (cl l i) = false) : leftN l (o ++ [i]) = leftN l o := by
  unfold leftN
  congr 1
  apply List.filter_congr
  intro k _
  by_cases e : k = i
  · subst e
    rw [ha]
    rfl
  · have : ((o ++ [i]).contains k) = o.contains k := by
      rw [Bool.eq_iff_iff]
      simp [e]
    rw [this]
theorem left_le (l : List S39) (o : List Nat) : leftN l o ≤ l.length := by
  unfold leftN
  have := List.length_filter_le (fun k => ansB (cl l k) && !o.contains k) (List.range l.length)
  simpa using this
theorem inV_size (n : Nat) (o : List Nat) : (inV n o).size = n := by unfold inV; simp
theorem inV_put {n : Nat} {o : List Nat} {i : Nat} (hi : i < n) : (inV n o).setIfInBounds i (.int .i64 1) = inV n (o ++ [i]) := by
  apply Array.ext_getElem?
  intro k
  rw [Array.getElem?_setIfInBounds]
  by_cases hk : k < n
  · rw [inV_at hk, inV_at hk, inV_size]
    by_cases e : i = k
    · subst e
      simp [hi]
    · rw [if_neg e]
      have : ((o ++ [i]).contains k) = o.contains k := by
        rw [Bool.eq_iff_iff]
        simp [show k ≠ i from fun h => e h.symm]
      rw [this]
  · have h1 : (inV n o)[k]? = none := by rw [Array.getElem?_eq_none_iff, inV_size]; omega
    have h2 : (inV n (o ++ [i]))[k]? = none := by rw [Array.getElem?_eq_none_iff, inV_size]; omega
    rw [if_neg (by omega), h1, h2]
theorem inV_back {n : Nat} {o : List Nat} {i : Nat} (hi : i < n) (ho : o.contains i = false) : (inV n (o ++ [i])).setIfInBounds i (.int .i64 0) = inV n o := by
  apply Array.ext_getElem?
  intro k
  rw [Array.getElem?_setIfInBounds]
  by_cases hk : k < n
  · rw [inV_at hk, inV_at hk, inV_size]
    by_cases e : i = k
    · subst e
      simp [hi, ho] at ho ⊢
      simpa using ho
    · rw [if_neg e]
      have : ((o ++ [i]).contains k) = o.contains k := by
        rw [Bool.eq_iff_iff]
        simp [show k ≠ i from fun h => e h.symm]
      rw [this]
  · have h1 : (inV n o)[k]? = none := by rw [Array.getElem?_eq_none_iff, inV_size]; omega
    have h2 : (inV n (o ++ [i]))[k]? = none := by rw [Array.getElem?_eq_none_iff, inV_size]; omega
    rw [if_neg (by omega), h1, h2]
def ordV (o : List Nat) : List Value := o.map fun (i : Nat) => Value.int .i64 (i : Int)
/-- The search's record. -/
def srV (A : Option Addr) (n c bi bm : Nat) (v : Value) (left : Nat) : Array Value := #[.slice A n c, .slice (some ⟨bi, 0, none⟩) n n, .map (some bm), v, .int .i64 (left : Int)]
/-- The search's state in memory: what it has, apart from all else. -/
structure St (w0 : World) (A : Option Addr) (c : Nat) (l : List S39) (p bi bm : Nat) (w : World) (o : List Nat) (n : Nat) (m : KF) (v : Value) : Prop where
  hp : w.heap[p]? = some (.cells (srV A l.length c bi bm v (leftN l o)) 174 (0, 0))
  hi : w.heap[bi]? = some (.cells (inV l.length o) 3 (0, 0))
  hm : MapK w bm n m
  hb : Below w0.heap.size w0 w
  ho : w.ownsRow w0.heap.size 3 1 v o.length (ordV o)
  npi : p ≠ bi
  npm : p ≠ bm
  nim : bi ≠ bm
  bp : w0.heap.size ≤ p
  bbi : w0.heap.size ≤ bi
  bbm : w0.heap.size ≤ bm
  nv : ∀ k, v.ownBlock = some k → k ≠ p ∧ k ≠ bi ∧ k ≠ bm
/-- The blocks that the search may write. -/
def Xs (p bi bm : Nat) (v : Value) (k : Nat) : Prop := k = p ∨ k = bi ∨ k = bm ∨ v.ownBlock = some k
def NewB (w : World) (v v' : Value) : Prop := ∀ k, v'.ownBlock = some k → v.ownBlock = some k ∨ w.heap.size ≤ k
/-- The state stays while other blocks are made and written. -/
theorem St.below {w0 : World} {A : Option Addr} {c : Nat} {l : List S39} {p bi bm : Nat} {w w' : World} {o : List Nat} {n : Nat} {m : KF} {v : Value} (h : St w0 A c l p bi bm w o n m v) (hb : Below w.heap.size w w') : St w0 A c l p bi bm w' o n m v :=
  ⟨blk_below h.hp hb, blk_below h.hi hb, h.hm.kept (grown_of hb) (by simp), h.hb.trans (hb.mono h.hb.size), h.ho.kept (grown_of hb) (by cases v.ownBlock <;> simp), h.npi, h.npm, h.nim, h.bp, h.bbi, h.bbm, h.nv⟩
theorem St.grown {w0 : World} {A : Option Addr} {c : Nat} {l : List S39} {p bi bm : Nat} {w w' : World} {o : List Nat} {n : Nat} {m : KF} {v : Value} (h : St w0 A c l p bi bm w o n m v) {g : Nat} (hg : w.grownBy w' (some g)) (h0 : w0.heap.size ≤ g) (hne : ¬ Xs p bi bm v g) : St w0 A c l p bi bm w' o n m v := by
  have e1 : p ≠ g := fun e => hne (Or.inl e.symm)
  have e2 : bi ≠ g := fun e => hne (Or.inr (Or.inl e.symm))
  have e3 : bm ≠ g := fun e => hne (Or.inr (Or.inr (Or.inl e.symm)))
  have e4 : v.ownBlock ≠ some g := fun e => hne (Or.inr (Or.inr (Or.inr e)))
  exact ⟨blk_grown h.hp hg (by simpa using e1), blk_grown h.hi hg (by simpa using e2), h.hm.kept hg (by simpa using e3), h.hb.grown hg h.hb.size (fun k e => by injection e with e; omega), h.ho.kept hg (Or.inr e4), h.npi, h.npm, h.nim, h.bp, h.bbi, h.bbm, h.nv⟩
theorem St.reads {w0 : World} {A : Option Addr} {c : Nat} {l : List S39} {p bi bm : Nat} {w : World} {o : List Nat} {n : Nat} {m : KF} {v : Value} (h : St w0 A c l p bi bm w o n m v) (hr : Kd.C k39 w0 A l.length l) : Kd.C k39 w A l.length l := Kd.C_below hr h.hb
theorem ordV_snoc (o : List Nat) (i : Nat) : ordV (o ++ [i]) = ordV o ++ [.int .i64 (i : Int)] := by unfold ordV; simp
/-- The last one goes. -/
theorem owns_shrink {w : World} {B : Nat} {g n cap : Nat} {xs : List Value} {x : Value} (h : w.ownsRow B 3 1 (.slice (some ⟨g, 0, none⟩) (n + 1) cap) (n + 1) (xs ++ [x])) : w.ownsRow B 3 1 (.slice (some ⟨g, 0, none⟩) n cap) n xs := by
  obtain ⟨h1, h2⟩ := h
  have hx : xs.length = n := by simp at h1; omega
  refine ⟨by omega, Or.inr ?_⟩
  rcases h2 with ⟨e, _⟩ | ⟨g', cap', cur, e, hb, hg, hc, hm, hs, ht⟩
  · cases e
  · injection e with e1 e2 e3
    injection e1 with e1
    injection e1 with e1
    subst e1 e3
    refine ⟨g, cap, cur, rfl, hb, hg, by omega, hm, hs, ?_⟩
    have h3 := congrArg (List.take n) ht
    rw [List.take_take, List.take_left' hx] at h3
    rw [← h3]
    congr 1
    omega
theorem owns_slice {w : World} {B n : Nat} {v : Value} {xs : List Value} (h : w.ownsRow B 3 1 v (n + 1) xs) : ∃ g cap, v = .slice (some ⟨g, 0, none⟩) (n + 1) cap ∧ n + 1 ≤ cap ∧ cap ≤ maxLen := by
  rcases h.2 with ⟨_, e⟩ | ⟨g, cap, cur, e, hb, hg, hc, hm, hs, ht⟩
  · omega
  · exact ⟨g, cap, e, hc, hm⟩
theorem owns_one {w : World} {B n : Nat} {v : Value} {xs : List Value} (h : w.ownsRow B 3 1 v n xs) : v.oneCell' = true ∧ v.cells = #[v] := by
  rcases h.2 with ⟨e, _⟩ | ⟨g, cap, cur, e, hb, hg, hc, hm, hs, ht⟩ <;> subst e <;> exact ⟨rfl, rfl⟩
end Go.Proofs.Ytbakmkoppieelaa.PLinearChecks

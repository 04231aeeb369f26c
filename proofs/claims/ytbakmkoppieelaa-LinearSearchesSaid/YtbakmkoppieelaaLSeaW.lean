/- What is proved: a map from texts to what stands under them, at the operations that read and write it. -/
import Derived.Test.YtbakmkoppieelaaLSeaD
import Derived.Maps.OwnOps
import Derived.Maps.OwnSet
namespace Go.Proofs.Ytbakmkoppieelaa.PLinearChecks
open Go.RowKit Go.Proofs.YtbakmkoppieelaaW.PrintWords Go.Proofs.YtbakmkoppieelaaW.PrintLast Go.Proofs.YtbakmkoppieelaaW.PrintMore
set_option linter.unusedVariables false
set_option linter.unusedSimpArgs false
open Go.Maps in
theorem law9 : Keyed Try.prog 9 := string_keyed Try.underlying9
theorem key9 {s : ByteArray} (hs : s.size ≤ maxLen) : keyOf Try.prog 9 (.string s) = some (.string s.data.toList) := by
  rw [keyOf_string Try.underlying9]
  simp [mapKey, Try.underlying9, hs]
theorem zero130 (w : World) : (zeroValue 130).run Try.prog w = .ok (.agg #[.bool false, .string ⟨#[]⟩, .int .i64 0, .int .i64 0, .int .i64 0]) w := by kernel_rfl
abbrev cellV (c : SC) : Value := .agg #[.bool c.f0, .string c.f1, .int .i64 c.f2, .int .i64 c.f3, .int .i64 c.f4]
def encC (c : SC) : DataW Unit := .agg [.lit (.bool c.f0), .lit (.string c.f1.data.toList), .lit (.int .i64 c.f2), .lit (.int .i64 c.f3), .lit (.int .i64 c.f4)]
theorem encC_inj {c d : SC} (h : encC c = encC d) : c = d := by
  obtain ⟨c0, ⟨⟨c1⟩⟩, c2, c3, c4⟩ := c
  obtain ⟨d0, ⟨⟨d1⟩⟩, d2, d3, d4⟩ := d
  unfold encC at h
  simp at h
  obtain ⟨rfl, rfl, rfl, rfl, rfl⟩ := h
  rfl
theorem cellV_inj {c d : SC} (h : cellV c = cellV d) : c = d := by
  obtain ⟨c0, c1, c2, c3, c4⟩ := c
  obtain ⟨d0, d1, d2, d3, d4⟩ := d
  simp at h
  obtain ⟨rfl, rfl, rfl, rfl, rfl⟩ := h
  rfl
open Classical in
noncomputable def cellE (v : Value) : Option (DataW Unit × List MemPlace) := if h : ∃ c, v = cellV c then some (encC h.choose, []) else none
theorem cellE_mk (c : SC) : cellE (cellV c) = some (encC c, []) := by
  unfold cellE
  have h : ∃ d, cellV c = cellV d := ⟨c, rfl⟩
  rw [dif_pos h, ← cellV_inj h.choose_spec]
theorem cellE_inv {v : Value} {z : DataW Unit × List MemPlace} (h : cellE v = some z) : ∃ c, v = cellV c ∧ z = (encC c, []) := by
  unfold cellE at h
  split at h
  · rename_i hh
    exact ⟨hh.choose, hh.choose_spec, (Option.some.inj h).symm⟩
  · cases h
/-- The map in block b tells what stands under each key; it has at most n entries. -/
def MapK (w : World) (b n : Nat) (m : KF) : Prop := ∃ D : DataW Unit, w.ownsMap Try.prog 9 cellE b n D ∧ ∀ k : List UInt8, D.atKey (.string k) (encC zC) = encC (m k)
theorem mapK_made (w : World) : MapK (w.alloc (.map #[] 0)) w.heap.size 0 zK := ⟨_, World.ownsMap_made w Try.prog 9 cellE, fun k => Maps.atKey_of_not_has rfl _⟩
theorem MapK.kept {w w' : World} {b n : Nat} {m : KF} {row : Option Nat} (h : MapK w b n m) (hg : w.grownBy w' row) (hne : some b ≠ row) : MapK w' b n m := by
  obtain ⟨D, h1, h2⟩ := h
  exact ⟨D, h1.kept hg hne, h2⟩
theorem MapK.lt {w : World} {b n : Nat} {m : KF} (h : MapK w b n m) : b < w.heap.size := by
  obtain ⟨D, h1, h2⟩ := h
  exact h1.lt
theorem MapK.mono {w : World} {b n k : Nat} {m : KF} (h : MapK w b n m) (hk : n ≤ k) : MapK w b k m := by
  obtain ⟨D, h1, h2⟩ := h
  exact ⟨D, h1.mono hk, h2⟩
open Go.Maps in
theorem wpList_lookup_own_any {H : Type} {P : Program} (w : World) {ops : Array Oper} {rest : List Oper} {o : Oper} {a : Act} {Q : Exit → Act → World → Prop}
    (hg : o.guard = none) (m x : Operand) (t : TypeId) (hop : o.op = Op.lookup t m x false)
    (k e : TypeId) (K : Keyed P k) (ht : P.underlying t = some (.map k e)) (R : Value → Option (DataW H × List MemPlace)) (z : Value) (hz : (zeroValue e).run P w = .ok z w) (zd : DataW H) (zp : List MemPlace) (hzd : R z = some (zd, zp)) (b n : Nat) (D : DataW H)
    (hm : a.eval m = .map (some b)) (hown : w.ownsMap P k R b n D) (key : Value) (kl : Lit) (hx : a.eval x = key) (hkey : keyOf P k key = some kl)
    (hK : ∀ v ps, R v = some (D.atKey kl zd, ps) → wpList P ops Q rest (a.put o.dst v) w) : wpList P ops Q (o :: rest) a w := by
  refine wpList_plain hg fun K' hK' => ?_
  obtain ⟨v, ps, hrun, hv⟩ := hown.lookup K ht hz hzd hkey
  unfold Oper.wp
  simp [execOp, hop, hm, hx, hrun, Result.andThen]
  exact hK' _ _ (hK v ps hv)
theorem wpList_lookup_cell (w : World) {ops : Array Oper} {rest : List Oper} {o : Oper} {a : Act} {Q : Exit → Act → World → Prop}
    (hg : o.guard = none) (m x : Operand) (hop : o.op = Op.lookup 127 m x false) (b n : Nat) (κ : KF) (hm : a.eval m = .map (some b)) (hown : MapK w b n κ) (key : ByteArray) (hx : a.eval x = .string key) (hs : key.size ≤ maxLen)
    (hK : wpList Try.prog ops Q rest (a.put o.dst (cellV (κ key.toList))) w) : wpList Try.prog ops Q (o :: rest) a w := by
  obtain ⟨D, h1, h2⟩ := hown
  refine wpList_lookup_own_any w hg m x 127 hop 9 130 law9 Try.underlying127 cellE (cellV zC) (zero130 w) (encC zC) [] (cellE_mk zC) b n D hm h1 (.string key) (.string key.data.toList) hx (key9 hs) fun v ps hv => ?_
  obtain ⟨c, rfl, hc⟩ := cellE_inv hv
  have e : c = κ key.toList := by
    have h3 := h2 key.data.toList
    rw [ByteArray.toList_eq]
    injection hc with hc
    exact encC_inj (hc.symm.trans h3)
  subst e
  exact hK
open Go.Maps in
theorem wpList_update_cell (w : World) {ops : Array Oper} {rest : List Oper} {o : Oper} {a : Act} {Q : Exit → Act → World → Prop}
    (hg : o.guard = none) (m x v : Operand) (hop : o.op = Op.mapUpdate 127 m x v) (b n : Nat) (κ : KF) (hm : a.eval m = .map (some b)) (hown : MapK w b n κ) (hn : n < maxLen) (key : ByteArray) (c : SC) (hx : a.eval x = .string key) (hv : a.eval v = cellV c) (hs : key.size ≤ maxLen)
    (hK : ∀ w', MapK w' b (n + 1) (updK κ key.toList c) → w.grownBy w' (some b) → wpList Try.prog ops Q rest (a.put o.dst undef) w') : wpList Try.prog ops Q (o :: rest) a w := by
  obtain ⟨D, h1, h2⟩ := hown
  refine wpList_mapUpdate_own w hg m x v 127 hop 9 130 law9 Try.underlying127 cellE b n D hm h1 hn (.string key) (cellV c) (.string key.data.toList) hx hv (key9 hs) (encC c) [] (cellE_mk c) fun w' hw hgr => ?_
  refine hK w' ⟨_, hw, fun k => ?_⟩ hgr
  unfold updK
  rw [ByteArray.toList_eq]
  by_cases e : k = key.data.toList
  · subst e
    rw [if_pos rfl, atKey_put_same h1.isMap (by trivial)]
  · rw [if_neg e, atKey_put_other (by intro h; injection h with h; exact e h)]
    exact h2 k
end Go.Proofs.Ytbakmkoppieelaa.PLinearChecks

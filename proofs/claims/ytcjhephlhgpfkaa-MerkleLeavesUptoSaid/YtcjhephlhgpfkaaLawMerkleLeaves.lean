/- What is proved: the row of the law MerkleLeaves, where what it reads is of bulk at most 1048576: the law returns true and the input reads as before. Conditions: that bulk alone, as the statement has it. -/
import Derived.Test.YtcjhephlhgpfkaaRows
import Derived.Test.YtcjhephlhgpfkaaBulk
import Derived.Test.YtcjhephlhgpfkaaWalkLeaves
import Derived.WalkKit
import Derived.ProofKit
import Derived.OpenShut
import Derived.ShutString
import Derived.ChangeOld
import Derived.Below
import Derived.SizedLaws
import Derived.Carry
import Derived.JoinedCond
import Derived.Deep.Slices
namespace Go.Proofs.Ytcjhephlhgpfkaa.merkleLeaves
open Go.ChangeShapes Go.WideShapes Go.ChangeAt Go.RowKit Go.Proofs.Ytcjhephlhgpfkaa.PMerkleLeaves Go.Deep
open Go.Proofs.YtcjhephlhgpfkaaW.PrintWords
set_option linter.unusedVariables false
set_option linter.unusedSimpArgs false
section
variable {H : Type} {enc : TypeId × Value → H} {w : World} {fuel : Nat} {cs : List Value} {x : DataW H × List MemPlace}
theorem elem33 (h : DataW.trod enc Try.prog w 0 (fun _ => true) true fuel 33 cs = some x) : ∃ r : S33, cs = [.string r.f0, .string r.f1, .int .i64 r.f2] ∧ Rows.uptoBulk x.1 = r.f0.size + r.f1.size + 4 := by
  obtain ⟨xs, n, rfl, rfl, hl, hxl, hf⟩ := DataW.trod_struct Try.underlying33 h
  have c3 : Try.prog.cellsOf 33 = 3 := by kernel_rfl
  have c9 : Try.prog.cellsOf 9 = 1 := by kernel_rfl
  have c1 : Try.prog.cellsOf 3 = 1 := by kernel_rfl
  rw [c3] at hl
  match cs, hl with
  | [u0, u1, u2], _ =>
    match xs, hxl with
    | [y0, y1, y2], _ =>
      have h0 : DataW.trod enc Try.prog w 0 (fun _ => true) true n 9 (([u0, u1, u2].drop 0).take (Try.prog.cellsOf 9)) = some y0 := hf 0 _ rfl
      have h1 : DataW.trod enc Try.prog w 0 (fun _ => true) true n 9 (([u0, u1, u2].drop 1).take (Try.prog.cellsOf 9)) = some y1 := hf 1 _ rfl
      have h2 : DataW.trod enc Try.prog w 0 (fun _ => true) true n 3 (([u0, u1, u2].drop 2).take (Try.prog.cellsOf 3)) = some y2 := hf 2 _ rfl
      rw [c9] at h0 h1
      rw [c1] at h2
      obtain ⟨s0, e0, d0, -⟩ := DataW.trod_string Try.underlying9 h0
      obtain ⟨s1, e1, d1, -⟩ := DataW.trod_string Try.underlying9 h1
      obtain ⟨k2, e2, d2, -⟩ := DataW.trod_int Try.underlying3 h2
      simp at e0 e1 e2
      subst e0 e1 e2 d0 d1 d2
      refine ⟨⟨s0, s1, k2⟩, rfl, ?_⟩
      simp only [List.map_cons, List.map_nil, Rows.uptoBulk, Rows.uptoBulkAll, Array.length_toList]
      have z0 : s0.data.size = s0.size := rfl
      have z1 : s1.data.size = s1.size := rfl
      omega
end
theorem bulk_get {H : Type} (D : Nat → DataW H) : ∀ n, Rows.uptoBulkAll ((List.range (n + 1)).map D) = Rows.uptoBulkAll ((List.range n).map D) + Rows.uptoBulk (D n) := fun n => by
  rw [List.range_succ, List.map_append, bulks.append]
  simp [Rows.uptoBulkAll]
theorem leaf_bulk {H : Type} (rows : List S33) (D : Nat → DataW H) (h : ∀ i r, rows[i]? = some r → Rows.uptoBulk (D i) = r.f0.size + r.f1.size + 4) : ∀ k, k ≤ rows.length → (Sha.leafL (rows.take k)).length ≤ 8 * Rows.uptoBulkAll ((List.range k).map D) + 1
  | 0, _ => by simp [Sha.leafL]
  | k + 1, hk => by
    have ih := leaf_bulk rows D h k (by omega)
    rw [← Sha.leaf_snoc rows k (by omega), bulk_get, List.length_append]
    have e := h k _ (List.getElem?_eq_getElem (by omega))
    have e2 : rd_T33 rows (k : Int) = rows[k] := by
      unfold rd_T33
      simp [List.getD, List.getElem?_eq_getElem (show k < rows.length by omega)]
    rw [e2]
    have l0 := Sha.lebB_length (rows[k]).f0.size
    have l1 := Sha.lebB_length (rows[k]).f1.size
    have l2 := Sha.lebB_length (IntKind.u64.wrap (rows[k]).f2)
    have l3 : (Sha.rowB (rows[k]).f0 (rows[k]).f1 (rows[k]).f2).length ≤ (rows[k]).f0.size + (rows[k]).f1.size + 30 := by
      unfold Sha.rowB Sha.textB
      simp only [List.length_append, bytesOf_length]
      omega
    omega
theorem pick {α : Type} {p : Nat → α → Prop} : ∀ n, (∀ i, i < n → ∃ a, p i a) → ∃ xs : List α, xs.length = n ∧ ∀ i a, xs[i]? = some a → p i a
  | 0, _ => ⟨[], rfl, fun i a h => by simp at h⟩
  | n + 1, h => by
    obtain ⟨xs, hl, hx⟩ := pick n (fun i hi => h i (by omega))
    obtain ⟨a, ha⟩ := h n (by omega)
    refine ⟨xs ++ [a], by simp [hl], fun i b hb => ?_⟩
    rcases Nat.lt_or_ge i xs.length with hi | hi
    · rw [List.getElem?_append_left hi] at hb
      exact hx i b hb
    · rw [List.getElem?_append_right hi] at hb
      have h0 : i - xs.length = 0 := by
        rcases Nat.eq_zero_or_pos (i - xs.length) with h0 | h0
        · exact h0
        · rw [List.getElem?_eq_none (by simp; omega)] at hb; cases hb
      rw [h0] at hb
      simp at hb
      subst hb
      obtain rfl : i = n := by omega
      exact ha
theorem open_rows {H : Type} {enc : TypeId × Value → H} {w : World} {v : Value} {d : DataW H} {p : List MemPlace} (h : DataW.Trod enc Try.prog w 0 (fun _ => true) true 31 v d p) (hv : ∃ A n c, v = .slice A n c) (hb : Rows.uptoBulk d ≤ 1048576) :
    ∃ A c rows, v = .slice A rows.length c ∧ rows.length ≤ c ∧ Kd.C k33 w A rows.length rows ∧ (Sha.leafL rows).length ≤ 35184372088832 ∧ rows.length ≤ 1048576 := by
  obtain ⟨A0, n0, c0, rfl⟩ := hv
  obtain ⟨m, hm⟩ := h
  have c3 : Try.prog.cellsOf 33 = 3 := by kernel_rfl
  rcases open_slice Try.underlying31 hm with ⟨e, e2⟩ | ⟨a, len, cap, m', n', D, Pl, e, -, hl, hcap, hmm, e2, hel⟩
  · simp [Value.cells] at e
    obtain ⟨rfl, rfl, rfl⟩ := e
    exact ⟨none, 0, [], rfl, Nat.le_refl _, ⟨rfl, by simp, fun h0 => absurd h0 (by simp)⟩, by simp [Sha.leafL], by simp⟩
  · simp [Value.cells] at e
    obtain ⟨rfl, rfl, rfl⟩ := e
    injection e2 with e2 e3
    subst e2
    have hml : n0 ≤ m' := by rw [hmm]; simpa using hl
    have key : ∀ i, i < n0 → ∃ r : S33, (∃ c : List Value, c.length = 3 ∧ k33.K w r c ∧ ∀ j u, c[j]? = some u → w.cell? (a.add (i * 3 + j)) = some u) ∧ Rows.uptoBulk (D i) = r.f0.size + r.f1.size + 4 := by
      intro i hi
      obtain ⟨c, hcl, htr⟩ := hel i (by omega)
      obtain ⟨r, rfl, hbk⟩ := elem33 htr
      obtain ⟨_, hlen, hcell⟩ := World.cells?_some hcl
      refine ⟨r, ⟨_, rfl, k33_mk w r, fun j u hu => ?_⟩, hbk⟩
      have hj : j < 3 := by
        rcases Nat.lt_or_ge j 3 with h1 | h1
        · exact h1
        · rw [List.getElem?_eq_none (by simpa using h1)] at hu; cases hu
      have h2 := hcell j (by rw [c3]; exact hj)
      rw [c3, Go.Deep.add_add] at h2
      rw [h2, hu]
    obtain ⟨rows, hxl, hx⟩ := pick n0 key
    have hsl := bulks.slice_elems ((List.range n0).map D) ((List.range (m' - n0)).map fun j => D (n0 + j))
    have hlb := leaf_bulk rows D (fun i r hr => (hx i r hr).2) rows.length (Nat.le_refl _)
    rw [List.take_length, hxl] at hlb
    have hll := bulks.length_le ((List.range n0).map D)
    simp only [List.length_map, List.length_range] at hll
    refine ⟨some a, c0, rows, by rw [hxl], by omega, ?_, by omega, by omega⟩
    rw [hxl]
    refine ⟨hxl, by unfold maxLen at hcap; omega, fun _ => ⟨a, rfl, fun j r hj => ?_⟩⟩
    exact (hx j r hj).1
theorem own : ownKnob Try.prog.godebug = none := by kernel_rfl
theorem laidOut : laidOutB Try.prog = true := by kernel_rfl
theorem contract (H : Type) (enc : TypeId × Value → H) (W : World) (base : Nat) (args : Array Value) (ds gs : List (DataW H)) (before : List MemPlace)
    (hval0 : ∀ (j : Nat) t v, Try.f5.params[j]? = some t → args[j]? = some v → Value.okWide Try.prog W .any base t v)
    (hW : DataW.Whole enc Try.prog Try.f5.params.toList Rows.merkleLeavesSpec.vars false W args.toList ds gs before) (hk : Rows.uptoSmall H (ds ++ gs) = true) :
    Calls Try.prog 5 args W fun e W' => ∃ v, e = .returned v ∧ Rows.merkleLeavesSpec.post enc Try.prog Try.f5 false true false false W args v W' := by
  have hval : ∀ (j : Nat) t v, Try.f5.params[j]? = some t → args[j]? = some v → Value.okWide Try.prog W .any base t v := hval0
  have hW' := hW
  obtain ⟨p, q, hA0, hV, rfl, hfz, hnd⟩ := hW
  have hA : DataW.TrodAll enc Try.prog W 0 (fun _ => true) true Try.f5.params.toList args.toList ds p := hA0
  rw [Try.params5] at hA hval
  obtain ⟨v0, vs0, d0, ds0, p0, q0, hargs, rfl, rfl, h0, r0⟩ := trodAll_cons hA
  obtain ⟨rfl, rfl, rfl⟩ := trodAll_nil r0
  obtain rfl : args = #[v0] := by cases args; simp_all
  obtain ⟨rfl, rfl⟩ := trodVars_none hV
  have hb : Rows.uptoBulk d0 ≤ 1048576 := by
    have h := of_decide_eq_true hk
    simp only [List.append_nil, Rows.uptoBulkAll] at h
    omega
  have k0 := h0
  have lt0 : ∀ x ∈ p0, x.block < W.heap.size := by obtain ⟨m, hm⟩ := k0; exact DataW.trod_lt m _ _ _ hm
  obtain ⟨A, c, rows, rfl, hc, hC, hl, hn⟩ := open_rows h0 (okWide_slice Try.underlying31 (hval 0 31 v0 rfl rfl)) hb
  clear hA0 hval0
  refine (Sha.leaves_walk W A c rows hC hc hl hn).mono fun e W' ⟨he, bel⟩ => ?_
  subst he
  exact ⟨_, rfl, _, _, _, [], _, [], hW', trodAll_mk1 (shut_bool Try.underlying4 _), (trodAll_cons_mk (Below.trod laidOut (by kernel_rfl) (of_decide_eq_true (by kernel_rfl)) k0 bel lt0) trodAll_mk0), rfl, bel.frame _, fun h => by cases h⟩
set_option maxRecDepth 100000 in
theorem lifted (os : Os) (started : os.Started) (H : Type) (enc : TypeId × Value → H) (F : Stop.Interp) :
    ReturnsInHanded {} Try.checked os 5 .any ((Rows.OpenSpec.upto Rows.merkleLeavesSpec).pre6 enc Try.prog Try.f5 Rows.merkleLeavesUptoRow.domain false) (((Rows.OpenSpec.upto Rows.merkleLeavesSpec).at F).post enc Try.prog Try.f5 false true false false) := by
  refine returnsInHanded_of_cond (C := Try.checked) (s := Rows.OpenSpec.upto Rows.merkleLeavesSpec) (k := Rows.uptoSmall) rfl own started (by kernel_rfl) Try.func5
    (OpenSpec.witness (enc := enc) (C := Try.checked) (s := Rows.OpenSpec.upto Rows.merkleLeavesSpec) (k := Rows.uptoSmall) rfl false ⟨#[], #[.slice none 0 0], []⟩ 8 (by kernel_rfl) (by kernel_rfl) (by kernel_rfl)
      (x := ([.nil], [], [])) (by kernel_rfl) rfl (by kernel_rfl)) ?_
  intro W base args ds gs before hval hW _ hk _
  exact contract H enc W base args ds gs before hval hW hk
theorem over : Rows.merkleLeavesUptoRow.holds Try.pinned (Rows.OpenSpec.upto Rows.merkleLeavesSpec) :=
  OpenClaim.holds_of_cond 5 Try.f5 rfl rfl rfl rfl rfl rfl rfl ⟨rfl, rfl, rfl, rfl, rfl⟩ rfl rfl rfl rfl rfl (by kernel_rfl) Try.func5 (by kernel_rfl)
    (of_decide_eq_true (by kernel_rfl)) (by unfold Func.isWrapper; first | (rw [if_pos (by decide +kernel)]; kernel_rfl) | (rw [if_neg (by decide +kernel)]; exact ⟨rfl, rfl⟩))
    (fun os started H enc _ F => lifted os started H enc F)
theorem proved : Rows.MerkleLeavesUptoSaid := over
end Go.Proofs.Ytcjhephlhgpfkaa.merkleLeaves
namespace Go.Proofs.Ytcjhephlhgpfkaa
/-- The row, under a short name, for the claim. -/
theorem merkleLeavesUpto_holds : Rows.MerkleLeavesUptoSaid := merkleLeaves.proved
end Go.Proofs.Ytcjhephlhgpfkaa

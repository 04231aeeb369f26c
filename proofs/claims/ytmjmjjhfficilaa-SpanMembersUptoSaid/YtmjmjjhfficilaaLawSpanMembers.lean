/- What is proved: the row of the law SpanMembers and its card, where what it reads is of bulk at most 1048576: the law returns true and the input reads as before. Conditions: that bulk and the card's. -/
import Derived.Test.YtmjmjjhfficilaaRows
import Derived.Test.YtmjmjjhfficilaaBulk
import Derived.Test.YtmjmjjhfficilaaMembersWalk
import Derived.WalkKit
import Derived.Deep.DeepHandedRow
import Derived.JoinedCond
import Derived.ProofKit
import Derived.OpenShut
import Derived.ShutString
import Derived.ChangeOld
import Derived.Below
import Derived.SizedLaws
import Derived.Deep.Slices
namespace Go.Proofs.Ytmjmjjhfficilaa.spanMembers
open Go.ChangeShapes Go.WideShapes Go.ChangeAt Go.RowKit Go.Deep
open Go.ChangeMaps (open_string shut_string)
open Go.Proofs.YtmjmjjhfficilaaW.PrintWords
open Go.Proofs.Ytmjmjjhfficilaa.PSpanMembers
set_option linter.unusedVariables false
set_option linter.unusedSimpArgs false
theorem own : ownKnob Try.prog.godebug = none := by kernel_rfl
theorem laidOut : laidOutB Try.prog = true := by kernel_rfl
theorem pick {α : Type} {p : Nat → α → Prop} : ∀ n, (∀ i, i < n → ∃ a, p i a) → ∃ xs : List α, xs.length = n ∧ ∀ i a, xs[i]? = some a → p i a
  | 0, _ => ⟨[], rfl, fun i a h => by simp at h⟩
  | n + 1, h => by
    obtain ⟨xs, hl, hx⟩ := pick n (fun i hi => h i (by omega))
    obtain ⟨a, ha⟩ := h n (by omega)
    refine ⟨xs ++ [a], by simp [hl], fun i b hb => ?_⟩
    rcases Nat.lt_or_ge i xs.length with hi | hi
    · rw [List.getElem?_append_left hi] at hb
      exact hx i b hb
    · rw [List.getElem?_append_right hi] at hb
      have h0 : i - xs.length = 0 := by
        rcases Nat.eq_zero_or_pos (i - xs.length) with h0 | h0
        · exact h0
        · rw [List.getElem?_eq_none (by simp; omega)] at hb; cases hb
      rw [h0] at hb
      simp at hb
      subst hb
      obtain rfl : i = n := by omega
      exact ha
set_option maxRecDepth 100000 in
theorem elem22 {H : Type} {enc : TypeId × Value → H} {w : World} {fuel : Nat} {cs : List Value} {x : DataW H × List MemPlace} (h : DataW.trod enc Try.prog w 0 (fun _ => true) true fuel 29 cs = some x) : ∃ r : S29, cs = [.string r.f0, .string r.f1] ∧ Rows.uptoBulk x.1 = r.f0.size + r.f1.size + 3 := by
  obtain ⟨xs, n, rfl, rfl, hl, hxl, hf⟩ := DataW.trod_struct Try.underlying29 h
  have c3 : Try.prog.cellsOf 29 = 2 := by kernel_rfl
  have c9 : Try.prog.cellsOf 9 = 1 := by kernel_rfl
  rw [c3] at hl
  match cs, hl with
  | [u0, u1], _ =>
    match xs, hxl with
    | [y0, y1], _ =>
      have h0 : DataW.trod enc Try.prog w 0 (fun _ => true) true n 9 (([u0, u1].drop 0).take (Try.prog.cellsOf 9)) = some y0 := hf 0 _ rfl
      have h1 : DataW.trod enc Try.prog w 0 (fun _ => true) true n 9 (([u0, u1].drop 1).take (Try.prog.cellsOf 9)) = some y1 := hf 1 _ rfl
      rw [c9] at h0 h1
      obtain ⟨s0, e0, d0, -⟩ := DataW.trod_string Try.underlying9 h0
      obtain ⟨s1, e1, d1, -⟩ := DataW.trod_string Try.underlying9 h1
      simp at e0 e1
      subst e0 e1 d0 d1
      refine ⟨⟨s0, s1⟩, rfl, ?_⟩
      simp only [List.map_cons, List.map_nil, Rows.uptoBulk, Rows.uptoBulkAll, Array.length_toList]
      have z0 : s0.data.size = s0.size := rfl
      have z1 : s1.data.size = s1.size := rfl
      omega
theorem bulk_mem22 {H : Type} (D : Nat → DataW H) : ∀ n i, i < n → Rows.uptoBulk (D i) ≤ Rows.uptoBulkAll ((List.range n).map D)
  | 0, i, h => by omega
  | n + 1, i, h => by
    rw [List.range_succ, List.map_append, bulks.append]
    rcases Nat.lt_or_ge i n with h1 | h1
    · have := bulk_mem22 D n i h1; omega
    · obtain rfl : i = n := by omega
      simp [Rows.uptoBulkAll]; try omega
theorem open22 {H : Type} {enc : TypeId × Value → H} {w : World} {v : Value} {d : DataW H} {p : List MemPlace} (h : DataW.Trod enc Try.prog w 0 (fun _ => true) true 22 v d p) (hv : ∃ A n c, v = .slice A n c) (hb : Rows.uptoBulk d ≤ 1048576) :
    ∃ A c, ∃ xs : List S29, v = .slice A xs.length c ∧ xs.length ≤ c ∧ Kd.C k29 w A xs.length xs ∧ xs.length ≤ 1048576 ∧ ∀ x ∈ xs, x.f0.size ≤ 1048576 ∧ x.f1.size ≤ 1048576 := by
  obtain ⟨A0, n0, c0, rfl⟩ := hv
  obtain ⟨m, hm⟩ := h
  have c3 : Try.prog.cellsOf 29 = 2 := by kernel_rfl
  rcases open_slice Try.underlying22 hm with ⟨e, e2⟩ | ⟨a, len, cap, m', n', D, Pl, e, -, hl, hcap, hmm, e2, hel⟩
  · simp [Value.cells] at e
    obtain ⟨rfl, rfl, rfl⟩ := e
    exact ⟨none, 0, [], rfl, Nat.le_refl _, ⟨rfl, by simp, fun h0 => absurd h0 (by simp)⟩, by simp, fun x hx => by cases hx⟩
  · simp [Value.cells] at e
    obtain ⟨rfl, rfl, rfl⟩ := e
    injection e2 with e2 e3
    subst e2
    have hml : n0 ≤ m' := by rw [hmm]; simpa using hl
    have key : ∀ i, i < n0 → ∃ r : S29, (∃ c : List Value, c.length = 2 ∧ Kd.K k29 w r c ∧ ∀ j u, c[j]? = some u → w.cell? (a.add (i * 2 + j)) = some u) ∧ Rows.uptoBulk (D i) = r.f0.size + r.f1.size + 3 := by
      intro i hi
      obtain ⟨c, hcl, htr⟩ := hel i (by omega)
      obtain ⟨r, rfl, hbk⟩ := elem22 htr
      obtain ⟨_, hlen, hcell⟩ := World.cells?_some hcl
      refine ⟨r, ⟨_, rfl, k29_mk w r, fun j u hu => ?_⟩, hbk⟩
      have hj : j < 2 := by
        rcases Nat.lt_or_ge j 2 with h1 | h1
        · exact h1
        · rw [List.getElem?_eq_none (by simpa using h1)] at hu; cases hu
      have h2 := hcell j (by rw [c3]; exact hj)
      rw [c3, Go.Deep.add_add] at h2
      rw [h2, hu]
    obtain ⟨xs, hxl, hx⟩ := pick n0 key
    have hsl := bulks.slice_elems ((List.range n0).map D) ((List.range (m' - n0)).map fun j => D (n0 + j))
    have hll := bulks.length_le ((List.range n0).map D)
    simp only [List.length_map, List.length_range] at hll
    refine ⟨some a, c0, xs, by rw [hxl], by omega, ?_, by omega, fun x hxm => ?_⟩
    · rw [hxl]
      refine ⟨hxl, by unfold maxLen at hcap; omega, fun _ => ⟨a, rfl, fun j r hj => ?_⟩⟩
      exact (hx j r hj).1
    · obtain ⟨j, hj⟩ := List.mem_iff_getElem?.1 hxm
      have h9 := (hx j x hj).2
      have hjl : j < n0 := by
        rcases Nat.lt_or_ge j n0 with h1 | h1
        · exact h1
        · rw [List.getElem?_eq_none (by omega)] at hj; cases hj
      have hbm := bulk_mem22 D n0 j hjl
      first | exact h9 | (constructor <;> omega) | omega
theorem bulk_mem23 {H : Type} (D : Nat → DataW H) : ∀ n i, i < n → Rows.uptoBulk (D i) ≤ Rows.uptoBulkAll ((List.range n).map D)
  | 0, i, h => by omega
  | n + 1, i, h => by
    rw [List.range_succ, List.map_append, bulks.append]
    rcases Nat.lt_or_ge i n with h1 | h1
    · have := bulk_mem23 D n i h1; omega
    · obtain rfl : i = n := by omega
      simp [Rows.uptoBulkAll]; try omega
theorem open23 {H : Type} {enc : TypeId × Value → H} {w : World} {v : Value} {d : DataW H} {p : List MemPlace} (h : DataW.Trod enc Try.prog w 0 (fun _ => true) true 23 v d p) (hv : ∃ A n c, v = .slice A n c) (hb : Rows.uptoBulk d ≤ 1048576) :
    ∃ A c, ∃ xs : List ByteArray, v = .slice A xs.length c ∧ xs.length ≤ c ∧ Kd.C Kd.string w A xs.length xs ∧ xs.length ≤ 1048576 ∧ ∀ x ∈ xs, x.size ≤ 1048576 := by
  obtain ⟨A0, n0, c0, rfl⟩ := hv
  obtain ⟨m, hm⟩ := h
  have c3 : Try.prog.cellsOf 9 = 1 := by kernel_rfl
  rcases open_slice Try.underlying23 hm with ⟨e, e2⟩ | ⟨a, len, cap, m', n', D, Pl, e, -, hl, hcap, hmm, e2, hel⟩
  · simp [Value.cells] at e
    obtain ⟨rfl, rfl, rfl⟩ := e
    exact ⟨none, 0, [], rfl, Nat.le_refl _, ⟨rfl, by simp, fun h0 => absurd h0 (by simp)⟩, by simp, fun x hx => by cases hx⟩
  · simp [Value.cells] at e
    obtain ⟨rfl, rfl, rfl⟩ := e
    injection e2 with e2 e3
    subst e2
    have hml : n0 ≤ m' := by rw [hmm]; simpa using hl
    have key : ∀ i, i < n0 → ∃ r : ByteArray, (∃ c : List Value, c.length = 1 ∧ Kd.K Kd.string w r c ∧ ∀ j u, c[j]? = some u → w.cell? (a.add (i * 1 + j)) = some u) ∧ Rows.uptoBulk (D i) = r.size + 1 := by
      intro i hi
      obtain ⟨c, hcl, htr⟩ := hel i (by omega)
      obtain ⟨r, rfl, hd, -⟩ := DataW.trod_string Try.underlying9 htr; have hbk : Rows.uptoBulk (D i) = r.size + 1 := by (have e : D i = .lit (.string r.data.toList) := congrArg Prod.fst hd); rw [e]; simp only [Rows.uptoBulk, Array.length_toList]; rfl
      obtain ⟨_, hlen, hcell⟩ := World.cells?_some hcl
      refine ⟨r, ⟨_, rfl, rfl, fun j u hu => ?_⟩, hbk⟩
      have hj : j < 1 := by
        rcases Nat.lt_or_ge j 1 with h1 | h1
        · exact h1
        · rw [List.getElem?_eq_none (by simpa using h1)] at hu; cases hu
      have h2 := hcell j (by rw [c3]; exact hj)
      rw [c3, Go.Deep.add_add] at h2
      rw [h2, hu]
    obtain ⟨xs, hxl, hx⟩ := pick n0 key
    have hsl := bulks.slice_elems ((List.range n0).map D) ((List.range (m' - n0)).map fun j => D (n0 + j))
    have hll := bulks.length_le ((List.range n0).map D)
    simp only [List.length_map, List.length_range] at hll
    refine ⟨some a, c0, xs, by rw [hxl], by omega, ?_, by omega, fun x hxm => ?_⟩
    · rw [hxl]
      refine ⟨hxl, by unfold maxLen at hcap; omega, fun _ => ⟨a, rfl, fun j r hj => ?_⟩⟩
      exact (hx j r hj).1
    · obtain ⟨j, hj⟩ := List.mem_iff_getElem?.1 hxm
      have h9 := (hx j x hj).2
      have hjl : j < n0 := by
        rcases Nat.lt_or_ge j n0 with h1 | h1
        · exact h1
        · rw [List.getElem?_eq_none (by omega)] at hj; cases hj
      have hbm := bulk_mem23 D n0 j hjl
      first | exact h9 | (constructor <;> omega) | omega
/-- The cells of a table of numbers, or of small structs of numbers. -/
def one : DataW Unit → List Value
  | .lit (.int k n) => [.int k n]
  | .lit (.string s) => [.string ⟨s.toArray⟩]
  | _ => []
def two : DataW Unit → List Value
  | .agg l => l.flatMap one
  | d => one d
def cellsL : DataW Unit → List Value
  | .agg l => l.flatMap two
  | _ => []
def lay (d : DataW Unit) : Obj → Obj
  | .cells _ t frozen => .cells (cellsL d).toArray t frozen
  | o => o
set_option maxRecDepth 100000 in
theorem contract (H : Type) (enc : TypeId × Value → H) (W : World) (base : Nat) (args : Array Value) (ds gs : List (DataW H)) (before : List MemPlace)
    (hval0 : ∀ (j : Nat) t v, Try.f3.params[j]? = some t → args[j]? = some v → Value.okWide Try.prog W .any base t v)
    (hW : DataW.Whole enc Try.prog Try.f3.params.toList Rows.spanMembersSpec.vars false W args.toList ds gs before) (hk : Rows.uptoSmall H (ds ++ gs) = true) :
    Calls Try.prog 3 args W fun e W' => ∃ v, e = .returned v ∧ Rows.spanMembersSpec.post enc Try.prog Try.f3 false true false false W args v W' := by
  have hval : ∀ (j : Nat) t v, Try.f3.params[j]? = some t → args[j]? = some v → Value.okWide Try.prog W .any base t v := hval0
  have hW' := hW
  obtain ⟨p, q, hA0, hV, rfl, hfz, hnd⟩ := hW
  have hA : DataW.TrodAll enc Try.prog W 0 (fun _ => true) true Try.f3.params.toList args.toList ds p := hA0
  rw [Try.params3] at hA hval
  obtain ⟨v0, vs0, d0, ds0, p0, q0, hargs, rfl, rfl, h0, r0⟩ := trodAll_cons hA
  obtain ⟨v1, vs1, d1, ds1, p1, q1, rfl, rfl, rfl, h1, r1⟩ := trodAll_cons r0
  obtain ⟨v2, vs2, d2, ds2, p2, q2, rfl, rfl, rfl, h2, r2⟩ := trodAll_cons r1
  obtain ⟨rfl, rfl, rfl⟩ := trodAll_nil r2
  obtain rfl : args = #[v0, v1, v2] := by cases args; simp_all
  obtain ⟨rfl, rfl⟩ := trodVars_none hV
  have hb0 : Rows.uptoBulk d0 ≤ 1048576 := by
    have h := of_decide_eq_true hk
    simp only [List.append_nil, Rows.uptoBulkAll] at h
    omega
  have hb1 : Rows.uptoBulk d1 ≤ 1048576 := by
    have h := of_decide_eq_true hk
    simp only [List.append_nil, Rows.uptoBulkAll] at h
    omega
  have hb2 : Rows.uptoBulk d2 ≤ 1048576 := by
    have h := of_decide_eq_true hk
    simp only [List.append_nil, Rows.uptoBulkAll] at h
    omega
  have k0 := h0
  have lt0 : ∀ x ∈ p0, x.block < W.heap.size := by obtain ⟨m, hm⟩ := k0; exact DataW.trod_lt m _ _ _ hm
  obtain ⟨A0, c0, l0, rfl, hc0, hC0, hl0, hm0⟩ := open22 h0 (okWide_slice Try.underlying22 (hval 0 22 v0 rfl rfl)) hb0
  have k1 := h1
  have lt1 : ∀ x ∈ p1, x.block < W.heap.size := by obtain ⟨m, hm⟩ := k1; exact DataW.trod_lt m _ _ _ hm
  obtain ⟨A1, c1, l1, rfl, hc1, hC1, hl1, hm1⟩ := open22 h1 (okWide_slice Try.underlying22 (hval 1 22 v1 rfl rfl)) hb1
  have k2 := h2
  have lt2 : ∀ x ∈ p2, x.block < W.heap.size := by obtain ⟨m, hm⟩ := k2; exact DataW.trod_lt m _ _ _ hm
  obtain ⟨A2, c2, l2, rfl, hc2, hC2, hl2, hm2⟩ := open23 h2 (okWide_slice Try.underlying23 (hval 2 23 v2 rfl rfl)) hb2
  clear hA0 hval0
  refine (members_walk W A0 A1 A2 c0 c1 c2 l0 l1 l2 hC0 hc0 hC1 hc1 hC2 hc2 hl0 hl1 hl2).mono fun e W' ⟨he, bel⟩ => ?_
  subst he
  exact ⟨_, rfl, _, _, _, [], _, [], hW', trodAll_mk1 (shut_bool Try.underlying4 _), (trodAll_cons_mk (Below.trod laidOut (by kernel_rfl) (of_decide_eq_true (by kernel_rfl)) k0 bel lt0) (trodAll_cons_mk (Below.trod laidOut (by kernel_rfl) (of_decide_eq_true (by kernel_rfl)) k1 bel lt1) (trodAll_cons_mk (Below.trod laidOut (by kernel_rfl) (of_decide_eq_true (by kernel_rfl)) k2 bel lt2) trodAll_mk0))), rfl, bel.frame _, fun h => by cases h⟩
set_option maxRecDepth 100000 in
theorem lifted (os : Os) (started : os.Started) (H : Type) (enc : TypeId × Value → H) (F : Stop.Interp) :
    ReturnsInHanded {} Try.checked os 3 .any ((Rows.OpenSpec.upto Rows.spanMembersSpec).pre6 enc Try.prog Try.f3 Rows.spanMembersUptoRow.domain false) (((Rows.OpenSpec.upto Rows.spanMembersSpec).at F).post enc Try.prog Try.f3 false true false false) := by
  refine returnsInHanded_of_cond (C := Try.checked) (s := Rows.OpenSpec.upto Rows.spanMembersSpec) (k := Rows.uptoSmall) rfl own started (by kernel_rfl) Try.func3
    (OpenSpec.witness (enc := enc) (C := Try.checked) (s := Rows.OpenSpec.upto Rows.spanMembersSpec) (k := Rows.uptoSmall) rfl false ⟨#[], #[.slice none 0 0, .slice none 0 0, .slice none 0 0], []⟩ 8 (by kernel_rfl) (by kernel_rfl) (by kernel_rfl)
      (x := ([.nil, .nil, .nil], [], [])) (by kernel_rfl) rfl (by kernel_rfl)) ?_
  intro W base args ds gs before hval hW _ hk _
  exact contract H enc W base args ds gs before hval hW hk
theorem over : Rows.spanMembersUptoRow.holds Try.pinned (Rows.OpenSpec.upto Rows.spanMembersSpec) :=
  OpenClaim.holds_of_cond 3 Try.f3 rfl rfl rfl rfl rfl rfl rfl ⟨rfl, rfl, rfl, rfl, rfl⟩ rfl rfl rfl rfl rfl (by kernel_rfl) Try.func3 (by kernel_rfl)
    (of_decide_eq_true (by kernel_rfl)) (by unfold Func.isWrapper; first | (rw [if_pos (by decide +kernel)]; kernel_rfl) | (rw [if_neg (by decide +kernel)]; exact ⟨rfl, rfl⟩))
    (fun os started H enc _ F => lifted os started H enc F)
theorem proved : Rows.SpanMembersUptoSaid := over
end Go.Proofs.Ytmjmjjhfficilaa.spanMembers
namespace Go.Proofs.Ytmjmjjhfficilaa
/-- The row, under a short name, for the claim. -/
theorem spanMembersUpto_holds : Rows.SpanMembersUptoSaid := spanMembers.proved
end Go.Proofs.Ytmjmjjhfficilaa

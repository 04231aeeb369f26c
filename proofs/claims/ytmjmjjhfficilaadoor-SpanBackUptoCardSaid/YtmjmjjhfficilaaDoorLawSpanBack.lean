/- What is proved: the row of the law SpanBack and its card, where what it reads is of bulk at most 1048576: the law returns true and the input reads as before. Conditions: that bulk and the card's. -/
import Derived.Test.YtmjmjjhfficilaaDoorRows
import Derived.Test.YtmjmjjhfficilaaDoorBulk
import Derived.Test.YtmjmjjhfficilaaDoorCards
import Derived.Test.YtmjmjjhfficilaaDoorTie
import Derived.Test.YtmjmjjhfficilaaDoorBackWalk
import Derived.WalkKit
import Derived.Deep.DeepHandedRow
import Derived.Lib.LaidTab
import Derived.ProofKit
import Derived.OpenShut
import Derived.ShutString
import Derived.ChangeOld
import Derived.Below
import Derived.SizedLaws
import Derived.Deep.Slices
namespace Go.Proofs.YtmjmjjhfficilaaDoor.spanBack
open Go.ChangeShapes Go.WideShapes Go.ChangeAt Go.RowKit Go.Deep
open Go.ChangeMaps (open_string shut_string)
open Go.Proofs.YtmjmjjhfficilaaDoorW.PrintWords
open Go.Proofs.YtmjmjjhfficilaaDoor.PSpanBack
set_option linter.unusedVariables false
set_option linter.unusedSimpArgs false
theorem own : ownKnob Tryd.prog.godebug = none := by kernel_rfl
theorem laidOut : laidOutB Tryd.prog = true := by kernel_rfl
theorem pick {α : Type} {p : Nat → α → Prop} : ∀ n, (∀ i, i < n → ∃ a, p i a) → ∃ xs : List α, xs.length = n ∧ ∀ i a, xs[i]? = some a → p i a
  | 0, _ => ⟨[], rfl, fun i a h => by simp at h⟩
  | n + 1, h => by
    obtain ⟨xs, hl, hx⟩ := pick n (fun i hi => h i (by omega))
    obtain ⟨a, ha⟩ := h n (by omega)
    refine ⟨xs ++ [a], by simp [hl], fun i b hb => ?_⟩
    rcases Nat.lt_or_ge i xs.length with hi | hi
    · rw [List.getElem?_append_left hi] at hb
      exact hx i b hb
    · rw [List.getElem?_append_right hi] at hb
      have h0 : i - xs.length = 0 := by
        rcases Nat.eq_zero_or_pos (i - xs.length) with h0 | h0
        · exact h0
        · rw [List.getElem?_eq_none (by simp; omega)] at hb; cases hb
      rw [h0] at hb
      simp at hb
      subst hb
      obtain rfl : i = n := by omega
      exact ha
theorem bulk_mem37 {H : Type} (D : Nat → DataW H) : ∀ n i, i < n → Rows.uptoBulk (D i) ≤ Rows.uptoBulkAll ((List.range n).map D)
  | 0, i, h => by omega
  | n + 1, i, h => by
    rw [List.range_succ, List.map_append, bulks.append]
    rcases Nat.lt_or_ge i n with h1 | h1
    · have := bulk_mem37 D n i h1; omega
    · obtain rfl : i = n := by omega
      simp [Rows.uptoBulkAll]; try omega
theorem open37 {H : Type} {enc : TypeId × Value → H} {w : World} {v : Value} {d : DataW H} {p : List MemPlace} (h : DataW.Trod enc Tryd.prog w 0 (fun _ => true) true 37 v d p) (hv : ∃ A n c, v = .slice A n c) (hb : Rows.uptoBulk d ≤ 1048576) :
    ∃ A c, ∃ xs : List Int, v = .slice A xs.length c ∧ xs.length ≤ c ∧ Kd.C (Kd.int .i64) w A xs.length xs ∧ xs.length ≤ 1048576 ∧ ∀ x ∈ xs, (Lit.int .i64 x).wf = true := by
  obtain ⟨A0, n0, c0, rfl⟩ := hv
  obtain ⟨m, hm⟩ := h
  have c3 : Tryd.prog.cellsOf 3 = 1 := by kernel_rfl
  rcases open_slice Tryd.underlying37 hm with ⟨e, e2⟩ | ⟨a, len, cap, m', n', D, Pl, e, -, hl, hcap, hmm, e2, hel⟩
  · simp [Value.cells] at e
    obtain ⟨rfl, rfl, rfl⟩ := e
    exact ⟨none, 0, [], rfl, Nat.le_refl _, ⟨rfl, by simp, fun h0 => absurd h0 (by simp)⟩, by simp, fun x hx => by cases hx⟩
  · simp [Value.cells] at e
    obtain ⟨rfl, rfl, rfl⟩ := e
    injection e2 with e2 e3
    subst e2
    have hml : n0 ≤ m' := by rw [hmm]; simpa using hl
    have key : ∀ i, i < n0 → ∃ r : Int, (∃ c : List Value, c.length = 1 ∧ Kd.K (Kd.int .i64) w r c ∧ ∀ j u, c[j]? = some u → w.cell? (a.add (i * 1 + j)) = some u) ∧ (Lit.int .i64 r).wf = true := by
      intro i hi
      obtain ⟨c, hcl, htr⟩ := hel i (by omega)
      obtain ⟨r, rfl, hd, hwf⟩ := DataW.trod_int Tryd.underlying3 htr; have hbk : (Lit.int .i64 r).wf = true := hwf
      obtain ⟨_, hlen, hcell⟩ := World.cells?_some hcl
      refine ⟨r, ⟨_, rfl, rfl, fun j u hu => ?_⟩, hbk⟩
      have hj : j < 1 := by
        rcases Nat.lt_or_ge j 1 with h1 | h1
        · exact h1
        · rw [List.getElem?_eq_none (by simpa using h1)] at hu; cases hu
      have h2 := hcell j (by rw [c3]; exact hj)
      rw [c3, Go.Deep.add_add] at h2
      rw [h2, hu]
    obtain ⟨xs, hxl, hx⟩ := pick n0 key
    have hsl := bulks.slice_elems ((List.range n0).map D) ((List.range (m' - n0)).map fun j => D (n0 + j))
    have hll := bulks.length_le ((List.range n0).map D)
    simp only [List.length_map, List.length_range] at hll
    refine ⟨some a, c0, xs, by rw [hxl], by omega, ?_, by omega, fun x hxm => ?_⟩
    · rw [hxl]
      refine ⟨hxl, by unfold maxLen at hcap; omega, fun _ => ⟨a, rfl, fun j r hj => ?_⟩⟩
      exact (hx j r hj).1
    · obtain ⟨j, hj⟩ := List.mem_iff_getElem?.1 hxm
      have h9 := (hx j x hj).2
      have hjl : j < n0 := by
        rcases Nat.lt_or_ge j n0 with h1 | h1
        · exact h1
        · rw [List.getElem?_eq_none (by omega)] at hj; cases hj
      have hbm := bulk_mem37 D n0 j hjl
      first | exact h9 | (constructor <;> omega) | omega
/-- The cells of a table of numbers, or of small structs of numbers. -/
def one : DataW Unit → List Value
  | .lit (.int k n) => [.int k n]
  | .lit (.string s) => [.string ⟨s.toArray⟩]
  | _ => []
def two : DataW Unit → List Value
  | .agg l => l.flatMap one
  | d => one d
def cellsL : DataW Unit → List Value
  | .agg l => l.flatMap two
  | _ => []
def lay (d : DataW Unit) : Obj → Obj
  | .cells _ t frozen => .cells (cellsL d).toArray t frozen
  | o => o
set_option maxRecDepth 100000 in
theorem contract (H : Type) (enc : TypeId × Value → H) (W : World) (base : Nat) (args : Array Value) (ds gs : List (DataW H)) (before : List MemPlace)
    (hval0 : ∀ (j : Nat) t v, Tryd.f6.params[j]? = some t → args[j]? = some v → Value.okWide Tryd.prog W .any base t v)
    (hW : DataW.Whole enc Tryd.prog Tryd.f6.params.toList Rows.spanBackSpec.vars false W args.toList ds gs before) (hk : Rows.uptoSmall H (ds ++ gs) = true) (hm : laidMetH Tryd.prog Rows.spanBackUptoRow.laid W) :
    Calls Tryd.prog 6 args W fun e W' => ∃ v, e = .returned v ∧ Rows.spanBackSpec.post enc Tryd.prog Tryd.f6 false true false false W args v W' := by
  have hval : ∀ (j : Nat) t v, Tryd.f6.params[j]? = some t → args[j]? = some v → Value.okWide Tryd.prog W .any base t v := hval0
  have hW' := hW
  obtain ⟨p, q, hA0, hV, rfl, hfz, hnd⟩ := hW
  have hA : DataW.TrodAll enc Tryd.prog W 0 (fun _ => true) true Tryd.f6.params.toList args.toList ds p := hA0
  rw [Tryd.params6] at hA hval
  obtain ⟨v0, vs0, d0, ds0, p0, q0, hargs, rfl, rfl, h0, r0⟩ := trodAll_cons hA
  obtain ⟨v1, vs1, d1, ds1, p1, q1, rfl, rfl, rfl, h1, r1⟩ := trodAll_cons r0
  obtain ⟨rfl, rfl, rfl⟩ := trodAll_nil r1
  obtain rfl : args = #[v0, v1] := by cases args; simp_all
  obtain ⟨rfl, rfl⟩ := trodVars_none hV
  have hb1 : Rows.uptoBulk d1 ≤ 1048576 := by
    have h := of_decide_eq_true hk
    simp only [List.append_nil, Rows.uptoBulkAll] at h
    omega
  obtain ⟨x0, rfl, rfl, rfl, y0⟩ := open_int Tryd.underlying3 (hval 0 3 v0 rfl rfl) h0
  have k1 := h1
  have lt1 : ∀ x ∈ p1, x.block < W.heap.size := by obtain ⟨m, hm⟩ := k1; exact DataW.trod_lt m _ _ _ hm
  obtain ⟨A1, c1, l1, rfl, hc1, hC1, hl1, hm1⟩ := open37 h1 (okWide_slice Tryd.underlying37 (hval 1 37 v1 rfl rfl)) hb1
  clear hA0 hval0
  refine (back_walk W x0 A1 c1 l1 hC1 hc1 hl1).mono fun e W' ⟨he, bel⟩ => ?_
  subst he
  exact ⟨_, rfl, _, _, _, [], _, [], hW', trodAll_mk1 (shut_bool Tryd.underlying4 _), (trodAll_cons_mk (shut_int Tryd.underlying3 y0) (trodAll_cons_mk (Below.trod laidOut (by kernel_rfl) (of_decide_eq_true (by kernel_rfl)) k1 bel lt1) trodAll_mk0)), rfl, bel.frame _, fun h => by cases h⟩
/-- A world for the witness: the settled one, the tables holding what their initialisers lay. -/
noncomputable def laidWorld (os : Os) : World := { World.holding Tryd.prog os ⟨#[], #[], []⟩ with heap := (((World.holding Tryd.prog os ⟨#[], #[], []⟩).heap.modify 2 (lay Go.Pinned.utf8First)).modify 3 (lay Rows.laid_unicode_utf8_acceptRanges)) }
set_option maxRecDepth 100000 in
theorem laid_met (os : Os) : laidMet Tryd.prog Rows.spanBackUptoRow.laid ((laidWorld os).forCall (fun _ _ => 0) ⟨#[], #[.int .i64 0, .slice none 0 0], []⟩).memory :=
  laidMet_of_run' 8 (by kernel_rfl) (by kernel_rfl)
set_option maxRecDepth 100000 in
theorem reads (os : Os) {H : Type} (enc : TypeId × Value → H) : ∃ places, DataW.whole enc Tryd.prog ((laidWorld os).forCall (fun _ _ => 0) ⟨#[], #[.int .i64 0, .slice none 0 0], []⟩).memory Tryd.f6.params.toList Rows.spanBackSpec.vars false (#[.int .i64 0, .slice none 0 0] : Array Value).toList 8 = some ([.lit (.int .i64 0), .nil], [], places) :=
  ⟨[], by kernel_rfl⟩
set_option maxRecDepth 100000 in
theorem lifted (os : Os) (started : os.Started) (H : Type) (enc : TypeId × Value → H) (F : Stop.Interp) :
    ReturnsInHanded {} Tryd.checked os 6 .any ((Rows.OpenSpec.upto Rows.spanBackSpec).preRow enc Tryd.prog Tryd.f6 Rows.spanBackUptoRow.domain false Rows.spanBackUptoRow.laid) (((Rows.OpenSpec.upto Rows.spanBackSpec).at F).post enc Tryd.prog Tryd.f6 false true false false) := by
  obtain ⟨places, hx⟩ := reads os enc
  refine returnsInHanded_of_row (C := Tryd.checked) (s := Rows.OpenSpec.upto Rows.spanBackSpec) own started (by kernel_rfl) Tryd.func6
    (witness_row_at (enc := enc) (C := Tryd.checked) false (laidWorld os) #[.int .i64 0, .slice none 0 0] rfl (by kernel_rfl) (by kernel_rfl) (by kernel_rfl)
      (OpenSpec.preRow_of_cond 8 hx (by kernel_rfl) (fun k hk => by cases hk; kernel_rfl) (by kernel_rfl) (laid_met os))) ?_
  intro W base args ds gs before hval hW _ hcond _ hlaid _ _
  exact contract H enc W base args ds gs before hval hW (hcond _ rfl) hlaid
theorem over : Rows.spanBackUptoRow.holds Tryd.pinned (Rows.OpenSpec.upto Rows.spanBackSpec) :=
  OpenClaim.holds_of_cond 6 Tryd.f6 rfl rfl rfl rfl rfl rfl rfl ⟨rfl, rfl, rfl, rfl, rfl⟩ rfl rfl rfl rfl rfl (by kernel_rfl) Tryd.func6 (by kernel_rfl)
    (of_decide_eq_true (by kernel_rfl)) (by unfold Func.isWrapper; first | (rw [if_pos (by decide +kernel)]; kernel_rfl) | (rw [if_neg (by decide +kernel)]; exact ⟨rfl, rfl⟩))
    (fun os started H enc _ F => by rw [OpenClaim.pre_eq_preRow]; exact lifted os started H enc F)
theorem proved : Rows.SpanBackUptoSaid := over
theorem plain (f : FuncId) (fn : Func) (hf : Tryd.pinned.checked.prog.funcNamed Rows.spanBackUptoRow.func = some f) (hfn : Tryd.pinned.checked.prog.funcs[f]? = some fn) :
    false = Tryd.pinned.checked.prog.looks [] ∧ ∀ (j : Nat) t, fn.params[j]? = some t → Tryd.pinned.checked.prog.wantsStandIn t = false := by
  obtain rfl : f = 6 := Option.some.inj ((show Tryd.prog.funcNamed Rows.spanBackUptoRow.func = some 6 by kernel_rfl).symm.trans hf) |>.symm
  obtain rfl : fn = Tryd.f6 := (Option.some.inj (Tryd.func6.symm.trans hfn)).symm
  refine ⟨by kernel_rfl, fun j t ht => ?_⟩
  rw [Tryd.params6] at ht
  have ht' : t = 3 ∨ t = 37 := by
    have h := Array.mem_of_getElem? ht
    simp at h
    rcases h with h | h <;> simp [h]
  rcases ht' with rfl | rfl
  · exact (show Tryd.prog.wantsStandIn 3 = false by kernel_rfl)
  · exact (show Tryd.prog.wantsStandIn 37 = false by kernel_rfl)
theorem card : Rows.SpanBackUptoCardSaid :=
  Claim7.holds_tied_plain_at .later [] _ _ _ _ proved (fun _ h => by cases h) (by kernel_rfl) (fun _ h => by cases h) spanBackUpto_row_tie rfl ⟨rfl, rfl⟩ (by kernel_rfl) rfl plain (by kernel_rfl)
end Go.Proofs.YtmjmjjhfficilaaDoor.spanBack
namespace Go.Proofs.YtmjmjjhfficilaaDoor
/-- The row, under a short name, for the claim. -/
theorem spanBackUptoCard_holds : Rows.SpanBackUptoCardSaid := spanBack.card
end Go.Proofs.YtmjmjjhfficilaaDoor

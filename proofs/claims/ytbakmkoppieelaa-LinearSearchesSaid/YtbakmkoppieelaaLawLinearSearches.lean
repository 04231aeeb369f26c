/- What is proved: the row of the law LinearSearches: whatever the input, the law returns true and the input reads as before. Conditions: none. -/
import Derived.Test.YtbakmkoppieelaaRows
import Derived.Test.YtbakmkoppieelaaOpens
import Derived.Test.YtbakmkoppieelaaLHs
import Derived.WalkKit
import Derived.ProofKit
import Derived.OpenShut
import Derived.ShutString
import Derived.ChangeOld
import Derived.Below
import Derived.SizedLaws
import Derived.Carry
namespace Go.Proofs.Ytbakmkoppieelaa.linearSearches
open Go.ChangeShapes Go.WideShapes Go.ChangeAt Go.RowKit
open Go.ChangeMaps (open_string shut_string)
open Go.Proofs.YtbakmkoppieelaaW
set_option linter.unusedVariables false
set_option linter.unusedSimpArgs false
theorem opens3 : Opens.Opens Try.prog 3 (PrintWords.Kd.int .i64) (fun n => (Lit.int .i64 n).wf = true) := Opens.opens_int Try.underlying3
theorem opens30 : Opens.Opens Try.prog 30 (PrintWords.Kd.int .i64) (fun n => (Lit.int .i64 n).wf = true) := Opens.opens_int Try.underlying30
theorem opens33 : Opens.Opens Try.prog 33 (PrintWords.Kd.int .i64) (fun n => (Lit.int .i64 n).wf = true) := Opens.opens_int Try.underlying33
theorem opens4 : Opens.Opens Try.prog 4 PrintWords.Kd.bool (fun _ => True) := Opens.opens_bool Try.underlying4
theorem opens9 : Opens.Opens Try.prog 9 PrintWords.Kd.string (fun s => s.size ≤ 140737488351232) := Opens.opens_string Try.underlying9
theorem opens32 : Opens.Opens Try.prog 32 PLinearChecks.k32 (fun x => ((Lit.int .i64 x.f0).wf = true ∧ x.f1.size ≤ 140737488351232 ∧ x.f2.size ≤ 140737488351232 ∧ (Lit.int .i64 x.f3).wf = true)) :=
  Opens.opens_struct (T := 4) (fun x : PLinearChecks.S32 => (x.f0, x.f1, x.f2, x.f3)) (fun p => ⟨p.1, p.2.1, p.2.2.1, p.2.2.2⟩) (fun _ => rfl) Try.underlying32 (by kernel_rfl)
    (Opens.opens_cons rfl rfl (off' := 1) (by kernel_rfl) opens30 (Opens.opens_cons rfl rfl (off' := 2) (by kernel_rfl) opens9 (Opens.opens_cons rfl rfl (off' := 3) (by kernel_rfl) opens9 (Opens.opens_last rfl rfl (by kernel_rfl) opens3))))
theorem opens35 : Opens.Opens Try.prog 35 PLinearChecks.k35 (fun x => ((Lit.int .i64 x.f0).wf = true ∧ (Lit.int .i64 x.f1).wf = true)) :=
  Opens.opens_struct (T := 2) (fun x : PLinearChecks.S35 => (x.f0, x.f1)) (fun p => ⟨p.1, p.2⟩) (fun _ => rfl) Try.underlying35 (by kernel_rfl)
    (Opens.opens_cons rfl rfl (off' := 1) (by kernel_rfl) opens33 (Opens.opens_last rfl rfl (by kernel_rfl) opens3))
theorem opens37 : Opens.Opens Try.prog 37 PLinearChecks.k37 (fun x => (x.f0.size ≤ 140737488351232 ∧ x.f1.size ≤ 140737488351232 ∧ (Lit.int .i64 x.f2).wf = true)) :=
  Opens.opens_struct (T := 3) (fun x : PLinearChecks.S37 => (x.f0, x.f1, x.f2)) (fun p => ⟨p.1, p.2.1, p.2.2⟩) (fun _ => rfl) Try.underlying37 (by kernel_rfl)
    (Opens.opens_cons rfl rfl (off' := 1) (by kernel_rfl) opens9 (Opens.opens_cons rfl rfl (off' := 2) (by kernel_rfl) opens9 (Opens.opens_last rfl rfl (by kernel_rfl) opens3)))
theorem opens39 : Opens.Opens Try.prog 39 PLinearChecks.k39 (fun x => (Lit.int .i64 x.f0).wf = true ∧ (Lit.int .i64 x.f1).wf = true ∧ True ∧ x.f3.size ≤ 140737488351232 ∧ ((Lit.int .i64 x.f4.f0).wf = true ∧ x.f4.f1.size ≤ 140737488351232 ∧ x.f4.f2.size ≤ 140737488351232 ∧ (Lit.int .i64 x.f4.f3).wf = true) ∧ (Lit.int .i64 x.f5).wf = true ∧ (Lit.int .i64 x.f6).wf = true ∧ ((Lit.int .i64 x.f7.f0).wf = true ∧ (Lit.int .i64 x.f7.f1).wf = true) ∧ (x.f8.f0.size ≤ 140737488351232 ∧ x.f8.f1.size ≤ 140737488351232 ∧ (Lit.int .i64 x.f8.f2).wf = true) ∧ True) :=
  Opens.opens_struct (T := 16) (fun x : PLinearChecks.S39 => (x.f0, x.f1, x.f2, x.f3, x.f4, x.f5, x.f6, x.f7, x.f8, x.f9)) (fun p => ⟨p.1, p.2.1, p.2.2.1, p.2.2.2.1, p.2.2.2.2.1, p.2.2.2.2.2.1, p.2.2.2.2.2.2.1, p.2.2.2.2.2.2.2.1, p.2.2.2.2.2.2.2.2.1, p.2.2.2.2.2.2.2.2.2⟩) (fun _ => rfl) Try.underlying39 (by kernel_rfl)
    (Opens.opens_cons rfl rfl (off' := 1) (by kernel_rfl) opens3 (Opens.opens_cons rfl rfl (off' := 2) (by kernel_rfl) opens3 (Opens.opens_cons rfl rfl (off' := 3) (by kernel_rfl) opens4 (Opens.opens_cons rfl rfl (off' := 4) (by kernel_rfl) opens9 (Opens.opens_cons rfl rfl (off' := 8) (by kernel_rfl) opens32 (Opens.opens_cons rfl rfl (off' := 9) (by kernel_rfl) opens3 (Opens.opens_cons rfl rfl (off' := 10) (by kernel_rfl) opens3 (Opens.opens_cons rfl rfl (off' := 12) (by kernel_rfl) opens35 (Opens.opens_cons rfl rfl (off' := 15) (by kernel_rfl) opens37 (Opens.opens_last rfl rfl (by kernel_rfl) opens4))))))))))
theorem opens22 : Opens.Opens Try.prog 22 (PrintWords.Kd.slice 39 PLinearChecks.k39) (fun xs => xs.length ≤ 9223372036854775807 ∧ xs.length * Try.prog.bytesOf 39 ≤ 140737488351232 ∧ ∀ x ∈ xs, (Lit.int .i64 x.f0).wf = true ∧ (Lit.int .i64 x.f1).wf = true ∧ True ∧ x.f3.size ≤ 140737488351232 ∧ ((Lit.int .i64 x.f4.f0).wf = true ∧ x.f4.f1.size ≤ 140737488351232 ∧ x.f4.f2.size ≤ 140737488351232 ∧ (Lit.int .i64 x.f4.f3).wf = true) ∧ (Lit.int .i64 x.f5).wf = true ∧ (Lit.int .i64 x.f6).wf = true ∧ ((Lit.int .i64 x.f7.f0).wf = true ∧ (Lit.int .i64 x.f7.f1).wf = true) ∧ (x.f8.f0.size ≤ 140737488351232 ∧ x.f8.f1.size ≤ 140737488351232 ∧ (Lit.int .i64 x.f8.f2).wf = true) ∧ True) := Opens.opens_slice Try.underlying22 (by kernel_rfl) opens39
theorem bytes39 : Try.prog.bytesOf 39 = 168 := by kernel_rfl

theorem own : ownKnob Try.prog.godebug = none := by kernel_rfl
theorem laidOut : laidOutB Try.prog = true := by kernel_rfl
set_option maxRecDepth 100000 in
theorem lifted (os : Os) (started : os.Started) (H : Type) (enc : TypeId × Value → H) :
    ReturnsInHanded {} Try.checked os 8 .any (Rows.linearSearchesSpec.pre6 enc Try.prog Try.f8 Rows.linearSearchesRow.domain false) (Rows.linearSearchesSpec.post enc Try.prog Try.f8 false true false false) := by
  refine returnsInHanded_of_change_sized (C := Try.checked) own started (by kernel_rfl) Try.func8
    (ChangeSpec.witness6 (enc := enc) (C := Try.checked) false ⟨#[], #[.slice none 0 0], []⟩ 8 (by kernel_rfl) (by kernel_rfl) (by kernel_rfl) (by kernel_rfl)) ?_
  intro W base args ds gs before hval0 hW hcnd hsz0 _
  have hsz : (DataW.weightsEach Try.prog (Try.f8.params.toList ++ Rows.linearSearchesSpec.plain.varTypes Try.prog) (ds ++ gs)).all (· ≤ reachBytes) = true := hsz0
  have hval : ∀ (j : Nat) t v, Try.f8.params[j]? = some t → args[j]? = some v → Value.okWide Try.prog W .any base t v := hval0
  have hW' := hW
  obtain ⟨p, q, hA0, hV, rfl, hfz, hnd⟩ := hW
  have hA : DataW.TrodAll enc Try.prog W 0 (fun _ => true) true Try.f8.params.toList args.toList ds p := hA0
  rw [Try.params8] at hA hval hsz
  obtain ⟨v0, vs0, d0, ds0, p0, q0, hargs, rfl, rfl, h0, r0⟩ := trodAll_cons hA
  obtain ⟨rfl, rfl, rfl⟩ := trodAll_nil r0
  obtain rfl : args = #[v0] := by cases args; simp_all
  obtain ⟨rfl, rfl⟩ := trodVars_none hV
  have k0 := h0
  have lt0 : ∀ x ∈ p0, x.block < W.heap.size := by obtain ⟨m, hm⟩ := k0; exact DataW.trod_lt m _ _ _ hm
  obtain ⟨A0, n0, c0, rfl⟩ := okWide_slice Try.underlying22 (hval 0 22 v0 rfl rfl)
  obtain ⟨a0, K0, w0⟩ := Opens.open_arg opens22 h0 hsz (j := 0) rfl rfl
  obtain ⟨B0, e0, f0, g0, C0⟩ := K0
  obtain ⟨rfl, rfl, rfl⟩ : A0 = B0 ∧ n0 = a0.length ∧ c0 = e0 := by simpa [Value.cells] using f0
  clear hA0 hval0 hsz0 hsz
  refine (PLinearChecks.searches_walk W _ _ a0 C0 g0 (by have h := w0.2.1; rw [bytes39] at h; exact h) (fun x hx => ⟨(w0.2.2 x hx).2.2.2.2.2.1, (w0.2.2 x hx).2.2.2.2.2.2.1⟩) (fun i h0 h1 => Nat.le_trans (w0.2.2 _ (PLinearChecks.rd_mem h0 h1)).2.2.2.1 (by decide))).mono fun e W' ⟨he, bel⟩ => ?_
  subst he
  exact ⟨_, rfl, _, _, _, [], _, [], hW', trodAll_mk1 (shut_bool Try.underlying4 _), (trodAll_cons_mk (Below.trod laidOut (by kernel_rfl) (of_decide_eq_true (by kernel_rfl)) k0 bel lt0) trodAll_mk0), rfl, bel.frame _, fun h => by cases h⟩
theorem over : Rows.linearSearchesRow.holds Try.pinned (OpenSpec.ofChange Rows.linearSearchesSpec) :=
  OpenClaim.holds_of_wide 8 Try.f8 rfl rfl rfl rfl rfl rfl rfl ⟨rfl, rfl, rfl, rfl, rfl⟩ rfl rfl rfl rfl rfl (by kernel_rfl) Try.func8 (by kernel_rfl)
    (of_decide_eq_true (by kernel_rfl)) (by unfold Func.isWrapper; first | (rw [if_pos (by decide +kernel)]; kernel_rfl) | (rw [if_neg (by decide +kernel)]; exact ⟨rfl, rfl⟩))
    (fun os started H enc _ => lifted os started H enc)
theorem proved : Rows.LinearSearchesSaid := over
end Go.Proofs.Ytbakmkoppieelaa.linearSearches
namespace Go.Proofs.Ytbakmkoppieelaa
/-- The row, under a short name, for the claim. -/
theorem linearSearches_holds : Rows.LinearSearchesSaid := linearSearches.proved
end Go.Proofs.Ytbakmkoppieelaa

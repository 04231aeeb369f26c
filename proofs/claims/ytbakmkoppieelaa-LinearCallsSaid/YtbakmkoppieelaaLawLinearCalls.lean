/- What is proved: the row of the law LinearCalls: whatever the input, the law returns true and the input reads as before. Conditions: none. -/
import Derived.Test.YtbakmkoppieelaaRows
import Derived.Test.YtbakmkoppieelaaOpens
import Derived.Test.YtbakmkoppieelaaLCaO
import Derived.WalkKit
import Derived.ProofKit
import Derived.OpenShut
import Derived.ShutString
import Derived.ChangeOld
import Derived.Below
import Derived.SizedLaws
import Derived.Carry
import Derived.Conc.Holds
namespace Go.Proofs.Ytbakmkoppieelaa.linearCalls
open Go.ChangeShapes Go.WideShapes Go.ChangeAt Go.RowKit
open Go.ChangeMaps (open_string shut_string)
open Go.Proofs.YtbakmkoppieelaaW
set_option linter.unusedVariables false
set_option linter.unusedSimpArgs false
theorem opens3 : Opens.Opens Try.prog 3 (PrintWords.Kd.int .i64) (fun n => (Lit.int .i64 n).wf = true) := Opens.opens_int Try.underlying3
theorem opens30 : Opens.Opens Try.prog 30 (PrintWords.Kd.int .i64) (fun n => (Lit.int .i64 n).wf = true) := Opens.opens_int Try.underlying30
theorem opens33 : Opens.Opens Try.prog 33 (PrintWords.Kd.int .i64) (fun n => (Lit.int .i64 n).wf = true) := Opens.opens_int Try.underlying33
theorem opens4 : Opens.Opens Try.prog 4 PrintWords.Kd.bool (fun _ => True) := Opens.opens_bool Try.underlying4
theorem opens9 : Opens.Opens Try.prog 9 PrintWords.Kd.string (fun s => s.size ≤ 140737488351232) := Opens.opens_string Try.underlying9
theorem opens32 : Opens.Opens Try.prog 32 PLinearChecks.k32 (fun x => ((Lit.int .i64 x.f0).wf = true ∧ x.f1.size ≤ 140737488351232 ∧ x.f2.size ≤ 140737488351232 ∧ (Lit.int .i64 x.f3).wf = true)) :=
  Opens.opens_struct (T := 4) (fun x : PLinearChecks.S32 => (x.f0, x.f1, x.f2, x.f3)) (fun p => ⟨p.1, p.2.1, p.2.2.1, p.2.2.2⟩) (fun _ => rfl) Try.underlying32 (by kernel_rfl)
    (Opens.opens_cons rfl rfl (off' := 1) (by kernel_rfl) opens30 (Opens.opens_cons rfl rfl (off' := 2) (by kernel_rfl) opens9 (Opens.opens_cons rfl rfl (off' := 3) (by kernel_rfl) opens9 (Opens.opens_last rfl rfl (by kernel_rfl) opens3))))
theorem opens35 : Opens.Opens Try.prog 35 PLinearChecks.k35 (fun x => ((Lit.int .i64 x.f0).wf = true ∧ (Lit.int .i64 x.f1).wf = true)) :=
  Opens.opens_struct (T := 2) (fun x : PLinearChecks.S35 => (x.f0, x.f1)) (fun p => ⟨p.1, p.2⟩) (fun _ => rfl) Try.underlying35 (by kernel_rfl)
    (Opens.opens_cons rfl rfl (off' := 1) (by kernel_rfl) opens33 (Opens.opens_last rfl rfl (by kernel_rfl) opens3))
theorem opens37 : Opens.Opens Try.prog 37 PLinearChecks.k37 (fun x => (x.f0.size ≤ 140737488351232 ∧ x.f1.size ≤ 140737488351232 ∧ (Lit.int .i64 x.f2).wf = true)) :=
  Opens.opens_struct (T := 3) (fun x : PLinearChecks.S37 => (x.f0, x.f1, x.f2)) (fun p => ⟨p.1, p.2.1, p.2.2⟩) (fun _ => rfl) Try.underlying37 (by kernel_rfl)
    (Opens.opens_cons rfl rfl (off' := 1) (by kernel_rfl) opens9 (Opens.opens_cons rfl rfl (off' := 2) (by kernel_rfl) opens9 (Opens.opens_last rfl rfl (by kernel_rfl) opens3)))
theorem opens51 : Opens.Opens Try.prog 51 (PrintWords.Kd.int .i64) (fun n => (Lit.int .i64 n).wf = true) := Opens.opens_int Try.underlying51
theorem opens5 : Opens.Opens Try.prog 5 (PrintWords.Kd.int .u8) (fun n => (Lit.int .u8 n).wf = true) := Opens.opens_int Try.underlying5
theorem opens54 : ∃ ok, Opens.Opens Try.prog 54 (PrintWords.Kd.slice 3 (PrintWords.Kd.int .i64)) ok := ⟨_, Opens.opens_slice Try.underlying54 (d := PrintWords.Kd.int .i64) (by kernel_rfl) opens3⟩
theorem opens57 : ∃ ok, Opens.Opens Try.prog 57 (PrintWords.Kd.slice 37 PLinearChecks.k37) ok := ⟨_, Opens.opens_slice Try.underlying57 (d := PLinearChecks.k37) (by kernel_rfl) opens37⟩
theorem opens60 : ∃ ok, Opens.Opens Try.prog 60 (PrintWords.Kd.slice 5 (PrintWords.Kd.int .u8)) ok := ⟨_, Opens.opens_slice Try.underlying60 (d := PrintWords.Kd.int .u8) (by kernel_rfl) opens5⟩
theorem opens53 : ∃ ok, Opens.Opens Try.prog 53 PLinearChecks.kUpd ok := ⟨_, Opens.opens_struct (T := 7) (fun x : PLinearChecks.TU => x) (fun p => p) (fun _ => rfl) Try.underlying53 (by kernel_rfl)
    (Opens.opens_cons rfl rfl (off' := 1) (by kernel_rfl) opens3 (Opens.opens_cons rfl rfl (off' := 2) (by kernel_rfl) opens3 (Opens.opens_cons rfl rfl (off' := 3) (by kernel_rfl) opens3 (Opens.opens_last rfl rfl (by kernel_rfl) opens32))))⟩
theorem opens56 : ∃ ok, Opens.Opens Try.prog 56 PLinearChecks.kCfg ok := by
  obtain ⟨_, h54⟩ := opens54
  exact ⟨_, Opens.opens_struct (T := 2) (fun x : Int × List Int => x) (fun p => p) (fun _ => rfl) Try.underlying56 (by kernel_rfl)
    (Opens.opens_cons rfl rfl (off' := 1) (by kernel_rfl) opens3 (Opens.opens_last rfl rfl (by kernel_rfl) h54))⟩
theorem opens59 : ∃ ok, Opens.Opens Try.prog 59 PLinearChecks.kSta ok := by
  obtain ⟨_, h57⟩ := opens57
  exact ⟨_, Opens.opens_struct (T := 2) (fun x : Int × List PLinearChecks.S37 => x) (fun p => p) (fun _ => rfl) Try.underlying59 (by kernel_rfl)
    (Opens.opens_cons rfl rfl (off' := 1) (by kernel_rfl) opens3 (Opens.opens_last rfl rfl (by kernel_rfl) h57))⟩
theorem opens62 : ∃ ok, Opens.Opens Try.prog 62 PLinearChecks.kPkt ok := by
  obtain ⟨_, h60⟩ := opens60
  exact ⟨_, Opens.opens_struct (T := 3) (fun x : Int × Int × List Int => x) (fun p => p) (fun _ => rfl) Try.underlying62 (by kernel_rfl)
    (Opens.opens_cons rfl rfl (off' := 1) (by kernel_rfl) opens3 (Opens.opens_cons rfl rfl (off' := 2) (by kernel_rfl) opens3 (Opens.opens_last rfl rfl (by kernel_rfl) h60)))⟩
theorem opens64 : ∃ ok, Opens.Opens Try.prog 64 PLinearChecks.kSeen ok := by
  obtain ⟨_, h53⟩ := opens53
  obtain ⟨_, h56⟩ := opens56
  obtain ⟨_, h59⟩ := opens59
  obtain ⟨_, h62⟩ := opens62
  exact ⟨_, Opens.opens_struct (T := 34) (fun x : PLinearChecks.TN => x) (fun p => p) (fun _ => rfl) Try.underlying64 (by kernel_rfl)
    (Opens.opens_cons rfl rfl (off' := 1) (by kernel_rfl) opens51 (Opens.opens_cons rfl rfl (off' := 2) (by kernel_rfl) opens3 (Opens.opens_cons rfl rfl (off' := 3) (by kernel_rfl) opens3 (Opens.opens_cons rfl rfl (off' := 4) (by kernel_rfl) opens3 (Opens.opens_cons rfl rfl (off' := 5) (by kernel_rfl) opens3 (Opens.opens_cons rfl rfl (off' := 6) (by kernel_rfl) opens3 (Opens.opens_cons rfl rfl (off' := 7) (by kernel_rfl) opens3 (Opens.opens_cons rfl rfl (off' := 8) (by kernel_rfl) opens3 (Opens.opens_cons rfl rfl (off' := 9) (by kernel_rfl) opens4 (Opens.opens_cons rfl rfl (off' := 10) (by kernel_rfl) opens9 (Opens.opens_cons rfl rfl (off' := 14) (by kernel_rfl) opens32 (Opens.opens_cons rfl rfl (off' := 21) (by kernel_rfl) h53 (Opens.opens_cons rfl rfl (off' := 23) (by kernel_rfl) opens35 (Opens.opens_cons rfl rfl (off' := 26) (by kernel_rfl) opens37 (Opens.opens_cons rfl rfl (off' := 27) (by kernel_rfl) opens4 (Opens.opens_cons rfl rfl (off' := 29) (by kernel_rfl) h56 (Opens.opens_cons rfl rfl (off' := 31) (by kernel_rfl) h59 (Opens.opens_last rfl rfl (by kernel_rfl) h62))))))))))))))))))⟩
theorem opens48x : ∃ ok : PLinearChecks.TN → Prop, Opens.Opens Try.prog 48 (PrintWords.Kd.slice 64 PLinearChecks.kSeen) (fun xs => xs.length ≤ 9223372036854775807 ∧ xs.length * Try.prog.bytesOf 64 ≤ 140737488351232 ∧ ∀ x ∈ xs, ok x) := by
  obtain ⟨ok, h⟩ := opens64
  exact ⟨ok, Opens.opens_slice Try.underlying48 (by kernel_rfl) h⟩
theorem opens48 : Opens.Opens Try.prog 48 (PrintWords.Kd.slice 64 PLinearChecks.kSeen) (fun xs => xs.length * Try.prog.bytesOf 64 ≤ 140737488351232) := by
  obtain ⟨ok, h⟩ := opens48x
  exact ⟨fun h1 h2 => (h.of h1 h2).imp fun _ h3 => ⟨h3.1, h3.2.2.1⟩⟩
theorem bytes64 : Try.prog.bytesOf 64 = 376 := by kernel_rfl
theorem leaving_of_alone {P : Program} {m : Machine} {w : World} {t : Trace} (h : aloneAtReturn P m w t) : leavingAtReturn P m w t := by
  refine ⟨h.2.1, ⟨fun g hg => ⟨0, ?_⟩, h.1.2⟩, h.2.2⟩
  have h2 : m.othersDone = true := h.1.1
  unfold Machine.othersDone at h2
  rw [List.all_eq_true] at h2
  show g.status = GoStatus.finished
  simpa using h2 g hg
theorem leaving_of_handed {a : Assume} {C : Checked} {os : Os} {f : FuncId} {r : Reach} {Pre : World → Array Value → Prop} {Post : World → Array Value → Value → World → Prop} (h : ReturnsInHanded a C os f r Pre Post) : ReturnsInLeavingWide a C os f r Pre Post :=
  fun enter => ReturnsInOpen.mono (fun _ _ _ x => leaving_of_alone x) (fun _ x => x) (h enter)

theorem own : ownKnob Try.prog.godebug = none := by kernel_rfl
theorem laidOut : laidOutB Try.prog = true := by kernel_rfl
set_option maxRecDepth 100000 in
theorem lifted (os : Os) (started : os.Started) (H : Type) (enc : TypeId × Value → H) :
    ReturnsInHanded {} Try.checked os 5 .any (Rows.linearCallsSpec.pre6 enc Try.prog Try.f5 Rows.linearCallsRow.domain false) (Rows.linearCallsSpec.post enc Try.prog Try.f5 false true false false) := by
  refine returnsInHanded_of_change_sized (C := Try.checked) own started (by kernel_rfl) Try.func5
    (ChangeSpec.witness6 (enc := enc) (C := Try.checked) false ⟨#[], #[.slice none 0 0], []⟩ 8 (by kernel_rfl) (by kernel_rfl) (by kernel_rfl) (by kernel_rfl)) ?_
  intro W base args ds gs before hval0 hW hcnd hsz0 _
  have hsz : (DataW.weightsEach Try.prog (Try.f5.params.toList ++ Rows.linearCallsSpec.plain.varTypes Try.prog) (ds ++ gs)).all (· ≤ reachBytes) = true := hsz0
  have hval : ∀ (j : Nat) t v, Try.f5.params[j]? = some t → args[j]? = some v → Value.okWide Try.prog W .any base t v := hval0
  have hW' := hW
  obtain ⟨p, q, hA0, hV, rfl, hfz, hnd⟩ := hW
  have hA : DataW.TrodAll enc Try.prog W 0 (fun _ => true) true Try.f5.params.toList args.toList ds p := hA0
  rw [Try.params5] at hA hval hsz
  obtain ⟨v0, vs0, d0, ds0, p0, q0, hargs, rfl, rfl, h0, r0⟩ := trodAll_cons hA
  obtain ⟨rfl, rfl, rfl⟩ := trodAll_nil r0
  obtain rfl : args = #[v0] := by cases args; simp_all
  obtain ⟨rfl, rfl⟩ := trodVars_none hV
  have k0 := h0
  have lt0 : ∀ x ∈ p0, x.block < W.heap.size := by obtain ⟨m, hm⟩ := k0; exact DataW.trod_lt m _ _ _ hm
  obtain ⟨A0, n0, c0, rfl⟩ := okWide_slice Try.underlying48 (hval 0 48 v0 rfl rfl)
  obtain ⟨a0, K0, w0⟩ := Opens.open_arg opens48 h0 hsz (j := 0) rfl rfl
  obtain ⟨B0, e0, f0, g0, C0⟩ := K0
  obtain ⟨rfl, rfl, rfl⟩ : A0 = B0 ∧ n0 = a0.length ∧ c0 = e0 := by simpa [Value.cells] using f0
  clear hA0 hval0 hsz0 hsz
  refine (PLinearChecks.calls_all W _ _ a0 C0 g0 (by have h := w0; rw [bytes64] at h; omega)).mono fun e W' ⟨he, bel⟩ => ?_
  subst he
  exact ⟨_, rfl, _, _, _, [], _, [], hW', trodAll_mk1 (shut_bool Try.underlying4 _), (trodAll_cons_mk (Below.trod laidOut (by kernel_rfl) (of_decide_eq_true (by kernel_rfl)) k0 bel lt0) trodAll_mk0), rfl, bel.frame _, fun h => by cases h⟩
theorem over : Rows.linearCallsRow.holds Try.pinned (OpenSpec.ofChange Rows.linearCallsSpec) :=
  OpenClaim.holds_of_wide_leaving 5 Try.f5 rfl rfl rfl rfl rfl rfl rfl ⟨rfl, rfl, rfl, rfl, rfl⟩ rfl rfl rfl rfl rfl (by kernel_rfl) Try.func5 (by kernel_rfl)
    (of_decide_eq_true (by kernel_rfl)) (by unfold Func.isWrapper; first | (rw [if_pos (by decide +kernel)]; kernel_rfl) | (rw [if_neg (by decide +kernel)]; exact ⟨rfl, rfl⟩))
    (fun os started H enc _ => leaving_of_handed (lifted os started H enc))
theorem proved : Rows.LinearCallsSaid := over
end Go.Proofs.Ytbakmkoppieelaa.linearCalls
namespace Go.Proofs.Ytbakmkoppieelaa
/-- The row, under a short name, for the claim. -/
theorem linearCalls_holds : Rows.LinearCallsSaid := linearCalls.proved
end Go.Proofs.Ytbakmkoppieelaa

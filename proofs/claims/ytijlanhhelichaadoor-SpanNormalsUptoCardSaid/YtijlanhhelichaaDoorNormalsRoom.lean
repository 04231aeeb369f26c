/- What is proved: the walks of hawserlaw06's roomy and kept, and of the law SpanNormals; the conditions stand in the theorems. -/
import Derived.Test.YtijlanhhelichaaDoorNormals
import Derived.Lib.Hide
import Derived.Deep.DeepCutAuto
import Derived.Deep.CutBlock
import Derived.Laws.Rows
import Derived.Laws.StructEq
namespace Go.Proofs.YtijlanhhelichaaDoor.NormalsWalk
open Go.RowKit Go.Proofs.YtijlanhhelichaaDoor.PSpanNormals Go.Proofs.YtijlanhhelichaaDoor.Normals Go.Proofs.YtijlanhhelichaaDoorW.PrintWords Go.Proofs.YtijlanhhelichaaDoorW.PrintLast Go.Proofs.YtijlanhhelichaaDoorW.PrintMore
set_option linter.unusedVariables false
set_option linter.unusedSimpArgs false
/-- The mark. -/
def sM : ByteArray := ⟨#[109, 97, 114, 107]⟩
def sK : ByteArray := ⟨#[107, 114, 97, 109]⟩
def mk : S28 := ⟨sM, sK⟩
def Mark (w : World) : Prop := w.cell? ⟨0, 0, none⟩ = some (.string sM) ∧ w.cell? ⟨0, 1, none⟩ = some (.string sK)
theorem Mark.below {w w' : World} (h : Mark w) (hb : Below w.heap.size w w') : Mark w' :=
  ⟨(hb.cell (show 0 < w.heap.size from World.block_lt_of_cell? w _ h.1)).trans h.1, (hb.cell (show 0 < w.heap.size from World.block_lt_of_cell? w _ h.1)).trans h.2⟩
theorem rep_succ (l : List S28) (i : Nat) : l ++ List.replicate (i + 1) mk = l ++ List.replicate i mk ++ [mk] := by
  rw [List.replicate_succ', List.append_assoc]
set_option maxRecDepth 100000 in
set_option maxHeartbeats 8000000 in
theorem roomy (w : World) (A : Option Addr) (c : Nat) (l : List S28) (hr : Kd.C k28 w A l.length l) (hc : l.length ≤ c) (hl : l.length ≤ 1048576) (hm : Mark w) :
    Calls Tryd.prog 17 #[.slice A l.length c] w fun e w' => ∃ A' c', e = .returned (.slice A' l.length c') ∧ l.length + 12 ≤ c' ∧ Kd.R k28 28 w' w.heap.size (fun _ => True) (.slice A' (l.length + 12) c') (l ++ List.replicate 12 mk) ∧ Below w.heap.size w w' := by
  have R := Lib.hid (And.intro hr (And.intro hl hm))
  obtain ⟨n, hn⟩ : ∃ n, RowKit.Hid (n = l.length) := ⟨_, Lib.hid rfl⟩
  have hnl : n ≤ 1048576 := by rw [hn.out]; exact hl
  have hrn : RowKit.Hid (Kd.C k28 w A n l) := Lib.hid (by rw [hn.out]; exact hr)
  rw [← hn.out] at hc ⊢
  clear hr hl hm
  go_enter Tryd.func17, Tryd.ntmps17
  go_upto_region 3 with (first
    | (at_builtin; refine Kd.R_append_rows k28 (Rr := k28.K w) (w0 := w) w.heap.size rfl (.const (.slice none 0 0)) (.tmp 5) 41 28 (.agg #[.string ⟨#[]⟩, .string ⟨#[]⟩]) 32 rfl Tryd.underlying41 infoR rfl (by decide) (by decide) (.slice none 0 0) [] l A n c (fun _ => True) (fun _ => False) rfl rfl (Kd.R_nil _ _ _ _ _) hrn.out (fun x cs h => by rw [k28_open h]; exact k28_mkM _ _ _ x) (fun _ h => h.elim) (fun _ _ => trivial) (Below.refl _ _) (Nat.le_refl _) (by have := hn.out; simp; omega) ?_; intro v1 w1 hR1 hb1 hg1 hat1))
  rw [List.nil_append] at hR1
  have F := Lib.hid (And.intro hR1 hb1)
  clear hR1 hb1 hg1 hat1
  go_loopw [3, 4] (fun v iv wr => ∃ i : Nat, i ≤ 12 ∧ iv = .int .i64 i ∧ Kd.R k28 28 wr w.heap.size (fun _ => True) v (l ++ List.replicate i mk) ∧ Below w.heap.size w wr) (fun _ iv _ => 12 - (intOf iv).toNat)
  case atStart => exact ⟨0, by omega, rfl, by simpa using F.out.1, F.out.2⟩
  case round =>
    obtain ⟨i, hi, rfl, hR, hb⟩ := hrel
    by_cases hlt : i < 12
    · have u12 : (i : Int) < 12 := by omega
      obtain ⟨m0, m1⟩ := R.out.2.2.below hb
      have hf0 : wr.heap.size ≥ w.heap.size := hb.size
      obtain ⟨rr, hrr⟩ : ∃ rr, RowKit.Hid (rr = l ++ List.replicate i mk) := ⟨_, Lib.hid rfl⟩
      have hrl : RowKit.Hid (rr.length ≤ 1048588) := Lib.hid (by rw [hrr.out, List.length_append, List.length_replicate]; have := R.out.2.1; omega)
      rw [← hrr.out] at hR
      obtain ⟨Av, cv, rfl, hcv, -⟩ := Kd.R_reads hR
      have H := Lib.hid (And.intro hR hb)
      obtain ⟨q, hq⟩ : ∃ q, RowKit.Hid (q = rr.length) := ⟨_, Lib.hid rfl⟩
      rw [← hq.out]
      clear hR hb hcv
      go_wp2_with (first
        | (at_builtin; refine Kd.R_append k28 (w0 := w) w.heap.size rfl (.tmp 11) (.tmp 13) 41 28 (.agg #[.string ⟨#[]⟩, .string ⟨#[]⟩]) 32 rfl Tryd.underlying41 infoR rfl (by decide) (by decide) (.slice Av q cv) rr mk [.string sM, .string sK] (fun _ => True) (fun _ => False) rfl rfl (k28_mkM _ _ _ mk) (fun _ h => h.elim) (fun _ _ => trivial) (by rw [hq.out]; exact H.out.1) H.out.2 hf0 (by have := hrl.out; omega) ?_; intro v6 w6 hown6 hb6 hg6 hat6))
      refine ⟨⟨i + 1, by omega, by go_num, ?_, hb6⟩, by simp [intOf]; omega⟩
      rw [rep_succ, ← hrr.out]; exact hown6
    · obtain rfl : i = 12 := by omega
      obtain ⟨Av, cv, rfl, hcv, -⟩ := Kd.R_reads hR
      have e12 : (l ++ List.replicate 12 mk).length = n + 12 := by rw [List.length_append, List.length_replicate, hn.out]
      rw [e12] at hR hcv ⊢
      have q0 : (0 : Int) ≤ (n : Int) := by omega
      have q1 : (n : Int) ≤ (cv : Int) := by omega
      have H := Lib.hid (And.intro hR (And.intro hb hcv))
      clear hR hb
      go_wp2
      go_ret
      exact ⟨_, _, rfl, H.out.2.2, H.out.1, H.out.2.1⟩
theorem neq_mk (W : World) : (binOp .neq 28 (.agg #[.string sM, .string sK]) (.agg #[.string sM, .string sK])).run Tryd.prog W = .ok (.bool false) W := by
  kernel_rfl
theorem equal_refl (l : List S28) (hl : l.length ≤ 1048576) : hawserlaw06_equal.f (2 * l.length + 2) l l = some true := by
  have h1 := plain_l0 l hl l.length 0 (l.length + 1) (by omega)
  have h2 := same_f l (l.map conv) (conv_p l).symm (by omega) l.length 0 (2 * l.length + 2) (by omega) (Nat.le_refl _)
  unfold hawserlaw06_equal.f hawserlaw06_plain.f hawserlaw06_same.f
  rw [show 2 * l.length + 2 = l.length + 1 + (l.length + 1) by omega]
  rw [show 2 * l.length + 2 = l.length + 1 + (l.length + 1) by omega] at h2
  have h3 : hawserlaw06_plain.l0 (l.length + 1 + (l.length + 1)) l [] 0 = some (l.map conv) := h1
  have h4 : hawserlaw06_same.l0 (l.length + 1 + (l.length + 1)) l (l.map conv) 0 = some true := h2
  rw [h3, Option.bind_some, h4, Option.bind_some]
set_option maxRecDepth 100000 in
set_option maxHeartbeats 8000000 in
theorem kept (w : World) (A' A : Option Addr) (c' c : Nat) (l : List S28) (hr' : Kd.C k28 w A' (l.length + 12) (l ++ List.replicate 12 mk)) (hc' : l.length + 12 ≤ c') (hr : Kd.C k28 w A l.length l) (hc : l.length ≤ c) (hl : l.length ≤ 1048576) (hm : Mark w) :
    Calls Tryd.prog 22 #[.slice A' l.length c', .slice A l.length c] w fun e w' => e = .returned (.bool true) ∧ Below w.heap.size w w' := by
  have hC0 : Kd.C k28 w A' l.length l := by
    have hz : Kd.C k28 w A' (l ++ List.replicate 12 mk).length (l ++ List.replicate 12 mk) := by rw [List.length_append, List.length_replicate]; exact hr'
    have h := Kd.C_take hz (m := l.length) (by rw [List.length_append]; omega)
    rw [List.take_left' rfl] at h
    exact h
  have heq := hawserlaw06_equal.calls (2 * l.length + 2) A' c' l A c l true w hC0 (by omega) hr hc (equal_refl l hl)
  have R := Lib.hid (And.intro hr' (And.intro hl hm))
  obtain ⟨n, hn⟩ : ∃ n, RowKit.Hid (n = l.length) := ⟨_, Lib.hid rfl⟩
  have hnl : n ≤ 1048576 := by rw [hn.out]; exact hl
  have hmx := Kd.C_max hr'
  rw [← hn.out] at heq hc' hmx ⊢
  clear hr' hr hc hl hm hC0
  have p0 : IntKind.i64.wrap ((n : Int) + 12) = ((n + 12 : Nat) : Int) := by rw [IntWalk.i64_in _ (by omega)]; omega
  have p1 : wrap64 ((n : Int) + 12) = ((n + 12 : Nat) : Int) := by rw [IntWalk.wrap64_in _ (by omega)]; omega
  have q0 : (0 : Int) ≤ ((n + 12 : Nat) : Int) := by omega
  have q1 : ((n + 12 : Nat) : Int) ≤ (c' : Int) := by omega
  go_enter Tryd.func22, Tryd.ntmps22
  go_upto_region 5 with (first
    | (go_at_call 37; refine heq.mono ?_; rintro e w2 ⟨rfl, hb2⟩))
  go_loopw [6] (fun v wr => ∃ i : Nat, i ≤ 12 ∧ v = .int .i64 i ∧ Below w.heap.size w wr) (fun v _ => 12 - (intOf v).toNat)
  case atStart => exact ⟨0, by omega, rfl, by first | exact hb2 | exact Below.refl _ _⟩
  case round =>
    obtain ⟨i, hi, rfl, hb⟩ := hrel
    by_cases hlt : i < 12
    · have u12 : (i : Int) < 12 := by omega
      obtain ⟨m0, m1⟩ := R.out.2.2.below hb
      have r0 : IntKind.i64.wrap ((n : Int) + (i : Int)) = ((n + i : Nat) : Int) := by rw [IntWalk.i64_in _ (by omega)]; omega
      have r1 : wrap64 ((n : Int) + (i : Int)) = ((n + i : Nat) : Int) := by rw [IntWalk.wrap64_in _ (by omega)]; omega
      have l16 : (0 : Int) ≤ ((n + i : Nat) : Int) := by omega
      have u16 : ((n + i : Nat) : Int) < ((n + 12 : Nat) : Int) := by omega
      obtain ⟨ad, eA, x0, x1⟩ := at_T28 (Kd.C_below R.out.1 hb) ((n + i : Nat) : Int) l16 (by rw [← hn.out]; omega)
      have er : rd_T28 (l ++ List.replicate 12 mk) ((n + i : Nat) : Int) = mk := by
        rw [rd28 _ (n + i) (by rw [List.length_append, List.length_replicate, ← hn.out]; omega)]
        rw [List.getElem_append_right (by rw [← hn.out]; omega)]
        exact List.getElem_replicate ..
      rw [er] at x0 x1
      simp only [Int.toNat_natCast] at x0 x1
      have x0' : w.heap.size = w.heap.size := rfl
      replace x0 : wr.cell? (ad.add ((n + i) * 2)) = some (.string sM) := x0
      replace x1 : wr.cell? ⟨(ad.add ((n + i) * 2)).block, (ad.add ((n + i) * 2)).off + 1, none⟩ = some (.string sK) := x1
      have HB := Lib.hid hb
      have hne := neq_mk
      replace l16 := eq_true l16
      replace u16 := eq_true u16
      cases eA
      clear hb er x0'
      go_upto_region 7 with (fail)
      repeat (go_quiet (fail); try go_wp2)
      exact ⟨⟨i + 1, by omega, by go_num, by repeat (first | exact HB.out | apply pw_below_drewN)⟩, by simp [intOf]; omega⟩
    · obtain rfl : i = 12 := by omega
      go_wp2
      go_ret
      exact ⟨rfl, hb⟩
end Go.Proofs.YtijlanhhelichaaDoor.NormalsWalk

/- What is proved: the closure of Calls and slices.IndexFunc with it; the conditions stand in the theorems. -/
import Derived.Test.YtbakmkoppieelaaLCaE
namespace Go.Proofs.Ytbakmkoppieelaa.PLinearChecks
open Go.RowKit Go.Proofs.YtbakmkoppieelaaW.PrintWords Go.Proofs.YtbakmkoppieelaaW.PrintLast Go.Proofs.YtbakmkoppieelaaW.PrintMore
set_option linter.unusedVariables false
set_option linter.unusedSimpArgs false
/-- A row's cells; z: those that nobody looks at. -/
def seenL (r : Ask) (z : Nat → Value) : List Value := [.int .i64 r.kind, z 1, z 2, .int .i64 r.client, .int .i64 r.number, z 5, z 6, z 7, .bool r.read, .string r.key, .int .i64 r.op.f0, .string r.op.f1, .string r.op.f2, .int .i64 r.op.f3, z 14, z 15, z 16, z 17, z 18, z 19, z 20, .int .i64 r.res.f0, .int .i64 r.res.f1, .string r.row.f0, .string r.row.f1, .int .i64 r.row.f2, .bool r.found, z 27, z 28, z 29, z 30, z 31, z 32, z 33]
theorem ans_agg (x : S39) (b : Bool) (h : ansB x = b) (W : World) : Calls Try.prog 42 #[.agg #[.int .i64 x.f0, .int .i64 x.f1, .bool x.f2, .string x.f3, .int .i64 x.f4.f0, .string x.f4.f1, .string x.f4.f2, .int .i64 x.f4.f3, .int .i64 x.f5, .int .i64 x.f6, .int .i64 x.f7.f0, .int .i64 x.f7.f1, .string x.f8.f0, .string x.f8.f1, .int .i64 x.f8.f2, .bool x.f9]] W fun e w' => e = .returned (.bool b) ∧ Below W.heap.size W w' := h ▸ answered_any x.f0 x.f1 x.f2 x.f3 x.f4.f0 x.f4.f1 x.f4.f2 x.f4.f3 x.f5 x.f6 x.f7.f0 x.f7.f1 x.f8.f0 x.f8.f1 x.f8.f2 x.f9 _ rfl W
theorem mt_eq (r : Ask) (x : S39) : mtB r x = (!ansB x && (x.f0 == r.client && (x.f1 == r.number && x.f2 == r.read))) := by
  unfold mtB ansB
  simp [bne]
/-- Rows that are read. -/
def RS (w : World) (A : Option Addr) (rows : List Ask) : Prop := ∀ (W : World), Below w.heap.size w W → ∀ i (h : i < rows.length), ∃ ad z, A = some ad ∧ (∀ k, (z k : Value).oneCell' = true) ∧ ∀ j v, (seenL rows[i] z)[j]? = some v → W.cell? ((ad.add (i * 34)).add j) = some v
set_option maxRecDepth 100000 in
set_option maxHeartbeats 8000000 in
/-- The closure: is a call the one that the row answers? -/
theorem clo_any (w : World) (x : S39) (r : Ask) (z : Nat → Value) (B : Nat) (hB : w.heap[B]? = some (.cells (seenL r z).toArray 64 (0, 0))) :
    Calls Try.prog 46 #[.agg #[.int .i64 x.f0, .int .i64 x.f1, .bool x.f2, .string x.f3, .int .i64 x.f4.f0, .string x.f4.f1, .string x.f4.f2, .int .i64 x.f4.f3, .int .i64 x.f5, .int .i64 x.f6, .int .i64 x.f7.f0, .int .i64 x.f7.f1, .string x.f8.f0, .string x.f8.f1, .int .i64 x.f8.f2, .bool x.f9], .pointer (some ⟨B, 0, none⟩)] w fun e w' => e = .returned (.bool (mtB r x)) ∧ Below w.heap.size w w' := by
  have hu39 := Try.underlying39
  have hu64 := Try.underlying64
  rw [mt_eq]
  obtain ⟨b, hb⟩ : ∃ b, ansB x = b := ⟨_, rfl⟩
  have HA := Lib.hid (ans_agg x b hb)
  have HBB := Lib.hid hB
  rw [hb]
  clear hb hB
  go_enter Try.func46, Try.ntmps46
  go_upto_region 1 with (first
    | ((with_reducible refine gate_dst (N := 2) rfl ?_); refine box_event rfl (N := 2) rfl (cs := #[.int .i64 x.f0, .int .i64 x.f1, .bool x.f2, .string x.f3, .int .i64 x.f4.f0, .string x.f4.f1, .string x.f4.f2, .int .i64 x.f4.f3, .int .i64 x.f5, .int .i64 x.f6, .int .i64 x.f7.f0, .int .i64 x.f7.f1, .string x.f8.f0, .string x.f8.f1, .int .i64 x.f8.f2, .bool x.f9]) (t := 39) (by first | (go_simp; done) | (go_simp; rfl)) ?_; intro g2 e2 w2 h2 b2; have B2 := Lib.hid h2; have B1 := Lib.hid (blk_below HBB.out b2); have HB := Lib.hid b2; clear h2 b2 e2)
    | (fail))
  cases b with
  | true =>
    go_wp2_with (first
      | ((with_reducible refine gate_dst (N := 4) rfl ?_); refine wpList_load_row rfl 39 (.tmp 2) rfl g2 rfl 39 #[.int .i64 x.f0, .int .i64 x.f1, .bool x.f2, .string x.f3, .int .i64 x.f4.f0, .string x.f4.f1, .string x.f4.f2, .int .i64 x.f4.f3, .int .i64 x.f5, .int .i64 x.f6, .int .i64 x.f7.f0, .int .i64 x.f7.f1, .string x.f8.f0, .string x.f8.f1, .int .i64 x.f8.f2, .bool x.f9] (0, 0) _ B2.out Try.underlying39 rfl (by kernel_rfl) ?_)
      | (go_at_call 42; (with_reducible refine (HA.out _).mono ?_); rintro e_ W_ ⟨rfl, hb⟩; replace HB := Lib.hid (below_step HB.out hb); clear hb)
      | (fail))
    go_ret
    exact ⟨rfl, HB.out⟩
  | false =>
    go_wp2_with (first
      | ((with_reducible refine gate_dst (N := 4) rfl ?_); refine wpList_load_row rfl 39 (.tmp 2) rfl g2 rfl 39 #[.int .i64 x.f0, .int .i64 x.f1, .bool x.f2, .string x.f3, .int .i64 x.f4.f0, .string x.f4.f1, .string x.f4.f2, .int .i64 x.f4.f3, .int .i64 x.f5, .int .i64 x.f6, .int .i64 x.f7.f0, .int .i64 x.f7.f1, .string x.f8.f0, .string x.f8.f1, .int .i64 x.f8.f2, .bool x.f9] (0, 0) _ B2.out Try.underlying39 rfl (by kernel_rfl) ?_)
      | (go_at_call 42; (with_reducible refine (HA.out _).mono ?_); rintro e_ W_ ⟨rfl, hb⟩; obtain ⟨c0, c1, c2, -⟩ := cells16 (blk_below B2.out hb); have d3 : W_.cell? ⟨B, 3, none⟩ = some (.int .i64 r.client) := (blk_cell (blk_below B1.out hb) 3).trans rfl; have d4 : W_.cell? ⟨B, 4, none⟩ = some (.int .i64 r.number) := (blk_cell (blk_below B1.out hb) 4).trans rfl; have d8 : W_.cell? ⟨B, 8, none⟩ = some (.bool r.read) := (blk_cell (blk_below B1.out hb) 8).trans rfl; replace HB := Lib.hid (below_step HB.out hb); clear hb)
      | (fail))
    all_goals (go_ret; exact ⟨by simp_all, HB.out⟩)
set_option maxRecDepth 100000 in
set_option maxHeartbeats 8000000 in
/-- slices.IndexFunc with the closure: the first such call. -/
theorem idx_any (w : World) (A : Option Addr) (c : Nat) (l : List S39) (r : Ask) (z : Nat → Value) (B : Nat) (hB : w.heap[B]? = some (.cells (seenL r z).toArray 64 (0, 0))) (hr : Kd.C k39 w A l.length l) (hn : l.length ≤ 1000000000000) :
    Calls Try.prog 45 #[.slice A l.length c, .func (.func 46) #[] #[.pointer (some ⟨B, 0, none⟩)]] w fun e w' => e = .returned (.int .i64 (fstI (mtB r) l)) ∧ Below w.heap.size w w' := by
  have HR := Lib.hid hr
  have HN := Lib.hid hn
  have HC := Lib.hid (fun (W : World) (hW : Below w.heap.size w W) (x : S39) (b : Bool) (hb : mtB r x = b) => (show Calls Try.prog 46 #[.agg #[.int .i64 x.f0, .int .i64 x.f1, .bool x.f2, .string x.f3, .int .i64 x.f4.f0, .string x.f4.f1, .string x.f4.f2, .int .i64 x.f4.f3, .int .i64 x.f5, .int .i64 x.f6, .int .i64 x.f7.f0, .int .i64 x.f7.f1, .string x.f8.f0, .string x.f8.f1, .int .i64 x.f8.f2, .bool x.f9], .pointer (some ⟨B, 0, none⟩)] W (fun e w' => e = .returned (.bool b) ∧ Below W.heap.size W w') from hb ▸ clo_any W x r z B (blk_below hB hW)))
  clear hr hB
  go_enter Try.func45, Try.ntmps45
  go_wp2
  go_loopw [5, 8] (fun _ v8 wr => ∃ k : Int, v8 = .int .i64 k ∧ (0 ≤ k ∧ k ≤ (l.length : Int)) ∧ RowKit.Hid (∀ j : Nat, (j : Int) < k → mtB r (cl l j) = false) ∧ RowKit.Hid (Below w.heap.size w wr)) (fun _ v8 _ => ((l.length : Int) - intOf v8).toNat)
  case atStart => exact ⟨0, rfl, ⟨by omega, by omega⟩, Lib.hid (fun j hj => by omega), Lib.hid (Below.refl _ _)⟩
  case round =>
    obtain ⟨k, rfl, ⟨k0, k1⟩, HJ, HB⟩ := hrel
    by_cases hlt : k < (l.length : Int)
    · have c1 : decide (k < (l.length : Int)) = true := decide_eq_true hlt
      have PK := Lib.hid (show 0 ≤ k ∧ k < (l.length : Int) by omega)
      have pK := eq_true k0
      have qK := eq_true hlt
      have wi : wrap64 (k + 1) = k + 1 := by have h2 := HN.out; unfold wrap64; omega
      have wi2 : IntKind.i64.wrap (k + 1) = k + 1 := (i64_w _).trans wi
      obtain ⟨ad, eA, RK⟩ := row39 (Kd.C_below HR.out HB.out) k k0 hlt
      cases eA
      have RK := Lib.hid RK
      cases hm : mtB r (rd_T39 l k) with
      | true =>
        have HA := Lib.hid (HC.out wr HB.out (rd_T39 l k) true hm)
        have HF := Lib.hid (show fstI (mtB r) l = k by have h := fstI_hit (p := mtB r) (l := l) (o := 0) (k := k.toNat) (by omega) hm (fun j hj => HJ.out j (by omega)); unfold fstI; rw [h]; omega)
        clear k0 k1 hlt hm
        go_wp2_with (first
          | ((with_reducible refine gate_dst (N := 15) rfl ?_); refine wpList_load_p rfl 39 (.tmp 14) rfl (ad.add (k.toNat * 16)) rfl [.int .i64 (rd_T39 l k).f0, .int .i64 (rd_T39 l k).f1, .bool (rd_T39 l k).f2, .string (rd_T39 l k).f3, .int .i64 (rd_T39 l k).f4.f0, .string (rd_T39 l k).f4.f1, .string (rd_T39 l k).f4.f2, .int .i64 (rd_T39 l k).f4.f3, .int .i64 (rd_T39 l k).f5, .int .i64 (rd_T39 l k).f6, .int .i64 (rd_T39 l k).f7.f0, .int .i64 (rd_T39 l k).f7.f1, .string (rd_T39 l k).f8.f0, .string (rd_T39 l k).f8.f1, .int .i64 (rd_T39 l k).f8.f2, .bool (rd_T39 l k).f9] _ RK.out Try.underlying39 rfl (by kernel_rfl) ?_)
          | (go_at_call 46; (with_reducible refine HA.out.mono ?_); rintro e_ W_ ⟨rfl, hb⟩; replace HB := Lib.hid (below_step HB.out hb); clear hb)
          | (fail))
        go_ret
        exact ⟨by rw [HF.out]; rfl, HB.out⟩
      | false =>
        have HA := Lib.hid (HC.out wr HB.out (rd_T39 l k) false hm)
        have HJ2 : RowKit.Hid (∀ j : Nat, (j : Int) < k + 1 → mtB r (cl l j) = false) := Lib.hid (fun j hj => by
          by_cases e : (j : Int) = k
          · rw [← rd_cl, e]; exact hm
          · exact HJ.out j (by omega))
        clear k0 k1 hlt hm
        go_wp2_with (first
          | ((with_reducible refine gate_dst (N := 15) rfl ?_); refine wpList_load_p rfl 39 (.tmp 14) rfl (ad.add (k.toNat * 16)) rfl [.int .i64 (rd_T39 l k).f0, .int .i64 (rd_T39 l k).f1, .bool (rd_T39 l k).f2, .string (rd_T39 l k).f3, .int .i64 (rd_T39 l k).f4.f0, .string (rd_T39 l k).f4.f1, .string (rd_T39 l k).f4.f2, .int .i64 (rd_T39 l k).f4.f3, .int .i64 (rd_T39 l k).f5, .int .i64 (rd_T39 l k).f6, .int .i64 (rd_T39 l k).f7.f0, .int .i64 (rd_T39 l k).f7.f1, .string (rd_T39 l k).f8.f0, .string (rd_T39 l k).f8.f1, .int .i64 (rd_T39 l k).f8.f2, .bool (rd_T39 l k).f9] _ RK.out Try.underlying39 rfl (by kernel_rfl) ?_)
          | (go_at_call 46; (with_reducible refine HA.out.mono ?_); rintro e_ W_ ⟨rfl, hb⟩; replace HB := Lib.hid (below_step HB.out hb); clear hb)
          | (fail))
        go_roundw
        case rel => exact ⟨k + 1, by first | rfl | go_num, ⟨by have := PK.out; omega, by have := PK.out; omega⟩, HJ2, HB⟩
        case measure => have := PK.out; simp [intOf]; omega
    · have hnl : decide (k < (l.length : Int)) = false := decide_eq_false hlt
      have ek : k = (l.length : Int) := by omega
      subst ek
      have HF := Lib.hid (show fstI (mtB r) l = -1 from fstI_none (fun j hj => HJ.out j (by omega)))
      clear k0 k1 hlt
      go_wp2
      go_ret
      exact ⟨by rw [HF.out]; rfl, HB.out⟩
end Go.Proofs.Ytbakmkoppieelaa.PLinearChecks

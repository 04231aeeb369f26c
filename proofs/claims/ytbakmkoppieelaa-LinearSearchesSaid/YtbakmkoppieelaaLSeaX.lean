/- What is proved: Search answers the least witness, of any calls. -/
import Derived.Test.YtbakmkoppieelaaLSeaV
namespace Go.Proofs.Ytbakmkoppieelaa.PLinearChecks
open Go.RowKit Go.Proofs.YtbakmkoppieelaaW.PrintWords Go.Proofs.YtbakmkoppieelaaW.PrintLast Go.Proofs.YtbakmkoppieelaaW.PrintMore
set_option linter.unusedVariables false
set_option linter.unusedSimpArgs false
theorem run_any (w0 : World) (ad : Addr) (c : Nat) (l : List S39) (gp gi bm : Nat) (hr : Kd.C k39 w0 (some ad) l.length l) (hc : l.length ≤ c) (hn : l.length ≤ 1000000) (hks : ∀ i : Int, 0 ≤ i → i < l.length → (rd_T39 l i).f3.size ≤ maxLen) : ∀ f, IHof w0 ad c l gp gi bm f := by
  intro f
  induction f with
  | zero =>
    intro o m v n w hnd hlt hlf hT hs
    exact run_whole w0 ad c l gp gi bm 0 o m v n w (whole_all hnd hlt hlf) hs
  | succ f ih =>
    intro o m v n w hnd hlt hlf hT hs
    by_cases hw : whlB l o = true
    · exact run_whole w0 ad c l gp gi bm (f + 1) o m v n w hw hs
    · rw [Bool.not_eq_true] at hw
      exact run_step w0 ad c l gp gi bm f hr hc hn hks ih o m v n w hw hnd hlt hlf hT hs
set_option maxRecDepth 100000 in
set_option maxHeartbeats 16000000 in
theorem run_whole_none (w0 : World) (c gp gi bm f : Nat) (w : World) (hs : St w0 none c [] gp gi bm w [] 0 zK (.slice none 0 0)) :
    Calls Try.prog 91 #[.pointer (some ⟨gp, 0, none⟩)] w fun e w' => RunTo w0 none c [] gp gi bm w 0 f [] zK (.slice none 0 0) e w' := by
  have HS := Lib.hid hs
  have k1 : w.cell? ⟨gp, 4, none⟩ = some (.int .i64 0) := (blk_cell hs.hp 4).trans rfl
  clear hs
  go_enter Try.func91, Try.ntmps91
  go_wp2
  go_ret
  exact Or.inl ⟨[], .slice none 0 0, 0, zK, go_whole rfl, rfl, HS.out, Keep.refl _ _⟩
theorem inV_nil (n : Nat) : inV n [] = madeCells #[Value.int .i64 0] n := by
  apply Array.ext_getElem?
  intro k
  by_cases hk : k < n
  · rw [inV_at hk]
    simp [madeCells, hk, Nat.mod_one]
  · rw [Array.getElem?_eq_none_iff.mpr (by rw [inV_size]; omega), Array.getElem?_eq_none_iff.mpr (by rw [size_madeCells]; omega)]
theorem make_ints_event {ops : Array Oper} {rest : List Oper} {o : Oper} {a : Act} {w : World} {Q : Exit → Act → World → Prop} (hgd : o.guard = none) (x y : Operand) (ho : o.op = .makeSlice 54 x y) (n : Nat) (hx : a.eval x = .int .i64 n) (hy : a.eval y = .int .i64 n) (hn : n ≤ 1000000000000)
    (h : ∀ g, g = w.heap.size → ∀ w1, w1.heap[g]? = some (.cells (inV n []) 3 (0, 0)) → Below w.heap.size w w1 → wpList Try.prog ops Q rest (a.put o.dst (.slice (some ⟨g, 0, none⟩) n n)) w1) : wpList Try.prog ops Q (o :: rest) a w := by
  obtain ⟨d3, i31, i32, i33, i34⟩ := info_parts info3
  have hrun := run_make (P := Try.prog) w 54 3 d3 (.int .i64 0) Try.underlying54 i31 i32 .i64 .i64 (n : Int) (n : Int) (by omega) (by omega) (by rw [i34]; omega) (by omega)
  simp only [Int.toNat_natCast] at hrun
  rw [i33, Nat.mul_one] at hrun
  have hz : (Value.int IntKind.i64 0).cells = #[Value.int .i64 0] := rfl
  rw [hz, ← inV_nil] at hrun
  refine wpList_plain hgd fun K hK => ?_
  unfold Oper.wp execOp
  simp only [ho, hx, hy, hrun, Sem.run_bind, Sem.run_pure, Result.andThen_ok]
  exact hK _ _ (h _ rfl _ (blk_new w _) (below_alloc (Below.refl _ _) _))
theorem make_map_event {ops : Array Oper} {rest : List Oper} {o : Oper} {a : Act} {w : World} {Q : Exit → Act → World → Prop} (hgd : o.guard = none) (ho : o.op = .makeMap 127 none)
    (h : ∀ g, g = w.heap.size → ∀ w1, MapK w1 g 0 zK → Below w.heap.size w w1 → wpList Try.prog ops Q rest (a.put o.dst (.map (some g))) w1) : wpList Try.prog ops Q (o :: rest) a w := by
  refine wpList_plain hgd fun K hK => ?_
  unfold Oper.wp execOp
  simp only [ho, Option.map_none, run_makeMap, Sem.run_bind, Sem.run_pure, Result.andThen_ok]
  exact hK _ _ (h _ rfl _ (mapK_made w) (below_alloc (Below.refl _ _) _))
/-- How many of the first k calls were answered. -/
def cntA (l : List S39) (k : Nat) : Nat := ((List.range k).filter fun j => ansB (cl l j) && !([] : List Nat).contains j).length
theorem cntA_succ (l : List S39) (k : Nat) : cntA l (k + 1) = cntA l k + (if ansB (cl l k) = true then 1 else 0) := by
  unfold cntA
  rw [List.range_succ, List.filter_append, List.length_append]
  congr 1
  cases h : ansB (cl l k) <;> simp [h]
theorem cntA_le (l : List S39) (k : Nat) : cntA l k ≤ k := by
  unfold cntA
  have := List.length_filter_le (fun j => ansB (cl l j) && !([] : List Nat).contains j) (List.range k)
  simpa using this
/-- What the search is while it is laid out. -/
structure Pre (w : World) (A : Option Addr) (c n gp gi bm left : Nat) (W : World) : Prop where
  hp : W.heap[gp]? = some (.cells (srV A n c gi bm (.slice none 0 0) left) 174 (0, 0))
  hi : W.heap[gi]? = some (.cells (inV n []) 3 (0, 0))
  hm : MapK W bm 0 zK
  hb : Below w.heap.size w W
  bp : w.heap.size ≤ gp
  bbi : w.heap.size ≤ gi
  bbm : w.heap.size ≤ bm
  npi : gp ≠ gi
  npm : gp ≠ bm
  nim : gi ≠ bm
theorem Pre.below {w : World} {A : Option Addr} {c n gp gi bm left : Nat} {W W' : World} (h : Pre w A c n gp gi bm left W) (hb : Below W.heap.size W W') : Pre w A c n gp gi bm left W' :=
  ⟨blk_below h.hp hb, blk_below h.hi hb, h.hm.kept (grown_of hb) (by simp), h.hb.trans (hb.mono h.hb.size), h.bp, h.bbi, h.bbm, h.npi, h.npm, h.nim⟩
theorem Pre.grown {w : World} {A : Option Addr} {c n gp gi bm left : Nat} {W W' : World} (h : Pre w A c n gp gi bm left W) {g : Nat} (hg : W.grownBy W' (some g)) (h0 : w.heap.size ≤ g) (h1 : g ≠ gp) (h2 : g ≠ gi) (h3 : g ≠ bm) : Pre w A c n gp gi bm left W' :=
  ⟨blk_grown h.hp hg (by intro e; injection e with e; exact h1 e.symm), blk_grown h.hi hg (by intro e; injection e with e; exact h2 e.symm), h.hm.kept hg (by intro e; injection e with e; exact h3 e.symm), below_of_grown h.hb hg h0 h.hb.size, h.bp, h.bbi, h.bbm, h.npi, h.npm, h.nim⟩
theorem Pre.left {w : World} {A : Option Addr} {c n gp gi bm left left' : Nat} {W W' : World} (h : Pre w A c n gp gi bm left W) (hc : W'.heap[gp]? = some (.cells (srV A n c gi bm (.slice none 0 0) left') 174 (0, 0))) (hg : W.grownBy W' (some gp)) : Pre w A c n gp gi bm left' W' :=
  ⟨hc, blk_grown h.hi hg (by intro e; injection e with e; exact h.npi e.symm), h.hm.kept hg (by intro e; injection e with e; exact h.npm e.symm), below_of_grown h.hb hg h.bp h.hb.size, h.bp, h.bbi, h.bbm, h.npi, h.npm, h.nim⟩
theorem Pre.st {w : World} {A : Option Addr} {c gp gi bm : Nat} {l : List S39} {W : World} (h : Pre w A c l.length gp gi bm (leftN l []) W) : St w A c l gp gi bm W [] 0 zK (.slice none 0 0) :=
  ⟨h.hp, h.hi, h.hm, h.hb, World.ownsRow_nil _ _ _ _, h.npi, h.npm, h.nim, h.bp, h.bbi, h.bbm, fun k hk => by cases hk⟩
theorem owns_base {w : World} {B C : Nat} {e s : Nat} {v : Value} {n : Nat} {xs : List Value} (h : w.ownsRow C e s v n xs) (hb : B ≤ C) : w.ownsRow B e s v n xs := by
  refine ⟨h.1, ?_⟩
  rcases h.2 with q | ⟨g, cap, cur, e1, e2, q⟩
  · exact Or.inl q
  · exact Or.inr ⟨g, cap, cur, e1, Nat.le_trans hb e2, q⟩
/-- What a search for a witness leaves. -/
def WitTo (w : World) (r : Option (List Nat)) (e : Ending) (w' : World) : Prop :=
  ∃ v, e = .returned (.tuple #[v, .bool r.isSome]) ∧ w'.ownsRow w.heap.size 3 1 v (r.getD []).length (ordV (r.getD [])) ∧ Below w.heap.size w w'
set_option maxRecDepth 100000 in
set_option maxHeartbeats 16000000 in
theorem witness_any (w : World) (A : Option Addr) (c : Nat) (l : List S39) (f : Nat) (hr : Kd.C k39 w A l.length l) (hc : l.length ≤ c) (hn : l.length ≤ 1000000) (hf : l.length ≤ f) (hT : Tc l.length f ≤ 1000000000000000) (hks : ∀ i : Int, 0 ≤ i → i < l.length → (rd_T39 l i).f3.size ≤ maxLen) :
    Calls Try.prog 56 #[.slice A l.length c] w fun e w' => WitTo w (goF l f [] zK) e w' := by
  have HR := Lib.hid hr
  have HC := Lib.hid hc
  have HN := Lib.hid hn
  have HKK := Lib.hid hks
  have HTT := Lib.hid hT
  have HFF := Lib.hid hf
  clear hr hc hks hT hf
  go_enter Try.func56, Try.ntmps56
  go_upto_region 2 with (first
    | ((with_reducible refine gate_dst (N := 10) rfl ?_); refine make_ints_event rfl _ _ rfl l.length rfl rfl (by have := HN.out; omega) ?_; intro gi ei w1 hi bi; have BI := Lib.hid hi; have LI := Lib.hid ei; have HB := Lib.hid bi; clear hi bi ei)
    | ((with_reducible refine gate_dst (N := 11) rfl ?_); refine make_map_event rfl rfl ?_; intro bm em w2 hm bm2; have NIM := Lib.hid (show gi ≠ bm by have := blk_lt BI.out; omega); have LM := Lib.hid (show w.heap.size ≤ bm by have := HB.out.size; omega); replace BI := Lib.hid (blk_below BI.out bm2); replace HB := Lib.hid (below_step HB.out bm2); have MP := Lib.hid hm; clear hm bm2 em)
    | ((with_reducible refine gate_dst (N := 13) rfl ?_); refine box_event rfl (N := 13) rfl (cs := srV A l.length c gi bm (.slice none 0 0) 0) (t := 174) (by unfold srV; first | (go_simp; done) | (go_simp; rfl)) ?_; intro gp ep w3 hp bp; have HP := Lib.hid (Pre.mk hp (blk_below BI.out bp) (MP.out.kept (grown_of bp) (by simp)) (below_step HB.out bp) (by have := HB.out.size; omega) (by have := LI.out; omega) LM.out (by have := blk_lt BI.out; omega) (by have := MP.out.lt; omega) NIM.out); clear hp bp ep)
    | (fail))
  clear BI HB MP LI LM NIM
  have H0 : RowKit.Hid (Pre w A c l.length gp gi bm (cntA l 0) w3) := HP
  clear HP
  go_wp2
  go_loopw [16] (fun v16 wr => ∃ i : Int, v16 = .int .i64 i ∧ (0 ≤ i ∧ i ≤ (l.length : Int)) ∧ RowKit.Hid (Pre w A c l.length gp gi bm (cntA l i.toNat) wr)) (fun v16 _ => ((l.length : Int) - intOf v16).toNat)
  case atStart => exact ⟨0, rfl, ⟨by omega, by omega⟩, H0⟩
  case round =>
    clear H0
    obtain ⟨i, rfl, ⟨i0, i1⟩, HP⟩ := hrel
    by_cases hlt : i < (l.length : Int)
    · have c1 : decide (i < (l.length : Int)) = true := decide_eq_true hlt
      have PI := Lib.hid (show 0 ≤ i ∧ i < (l.length : Int) ∧ i.toNat < l.length by omega)
      have pI := eq_true i0
      have qI := eq_true hlt
      have wi : wrap64 (i + 1) = i + 1 := by have h2 := HN.out; unfold wrap64; omega
      have wi2 : IntKind.i64.wrap (i + 1) = i + 1 := (i64_w _).trans wi
      obtain ⟨ad, eA, RK⟩ := row39 (Kd.C_below HR.out HP.out.hb) i i0 hlt
      cases eA
      have RK := Lib.hid RK
      have HA := Lib.hid (fun W => ans_any (rd_T39 l i) W)
      have HS1 := Lib.hid (cntA_succ l i.toNat)
      have HS2 := Lib.hid (cntA_le l i.toNat)
      clear i0 i1 hlt
      have ei : (i + 1).toNat = i.toNat + 1 := by have := PI.out; omega
      have EI := Lib.hid ei
      clear ei
      cases ha : ansB (rd_T39 l i) with
      | true =>
        rw [ha] at HA
        have HS := Lib.hid (show cntA l (i.toNat + 1) = cntA l i.toNat + 1 by rw [HS1.out, if_pos (show ansB (cl l i.toNat) = true from ha)])
        have wl1 : IntKind.i64.wrap ((cntA l i.toNat : Int) + 1) = ((cntA l i.toNat + 1 : Nat) : Int) := by rw [i64_w]; have h2 := HS2.out; have h3 := PI.out; have h4 := HN.out; unfold wrap64; omega
        have wl2 : wrap64 ((cntA l i.toNat : Int) + 1) = ((cntA l i.toNat + 1 : Nat) : Int) := by have h2 := HS2.out; have h3 := PI.out; have h4 := HN.out; unfold wrap64; omega
        clear ha
        go_wp2_with (first
          | ((with_reducible refine gate_dst (N := 19) rfl ?_); refine wpList_load_p rfl 39 (.tmp 18) rfl (ad.add (i.toNat * 16)) rfl [.int .i64 (rd_T39 l i).f0, .int .i64 (rd_T39 l i).f1, .bool (rd_T39 l i).f2, .string (rd_T39 l i).f3, .int .i64 (rd_T39 l i).f4.f0, .string (rd_T39 l i).f4.f1, .string (rd_T39 l i).f4.f2, .int .i64 (rd_T39 l i).f4.f3, .int .i64 (rd_T39 l i).f5, .int .i64 (rd_T39 l i).f6, .int .i64 (rd_T39 l i).f7.f0, .int .i64 (rd_T39 l i).f7.f1, .string (rd_T39 l i).f8.f0, .string (rd_T39 l i).f8.f1, .int .i64 (rd_T39 l i).f8.f2, .bool (rd_T39 l i).f9] _ RK.out Try.underlying39 rfl (by kernel_rfl) ?_)
          | ((with_reducible refine gate_dst (N := 6) rfl ?_); refine box_event rfl (N := 6) rfl (cs := #[.int .i64 0, .int .i64 0, .bool false, .string ⟨#[]⟩, .int .i64 0, .string ⟨#[]⟩, .string ⟨#[]⟩, .int .i64 0, .int .i64 0, .int .i64 0, .int .i64 0, .int .i64 0, .string ⟨#[]⟩, .string ⟨#[]⟩, .int .i64 0, .bool false]) (t := 39) (by first | (go_simp; done) | (go_simp; rfl)) ?_; intro g6 e6 w6 h6 b6; have N6 := Lib.hid (show g6 ≠ gp ∧ g6 ≠ gi ∧ g6 ≠ bm ∧ w.heap.size ≤ g6 by have h1 := blk_lt HP.out.hp; have h2 := blk_lt HP.out.hi; have h3 := HP.out.hm.lt; have h4 := HP.out.hb.size; omega); replace HP := Lib.hid (HP.out.below b6); have B6 := Lib.hid h6; clear h6 b6 e6)
          | ((with_reducible refine gate_store (t := 39) (p := 6) rfl ?_); refine store_row_event rfl 39 (.tmp 6) (.tmp 19) rfl g6 #[.int .i64 (rd_T39 l i).f0, .int .i64 (rd_T39 l i).f1, .bool (rd_T39 l i).f2, .string (rd_T39 l i).f3, .int .i64 (rd_T39 l i).f4.f0, .string (rd_T39 l i).f4.f1, .string (rd_T39 l i).f4.f2, .int .i64 (rd_T39 l i).f4.f3, .int .i64 (rd_T39 l i).f5, .int .i64 (rd_T39 l i).f6, .int .i64 (rd_T39 l i).f7.f0, .int .i64 (rd_T39 l i).f7.f1, .string (rd_T39 l i).f8.f0, .string (rd_T39 l i).f8.f1, .int .i64 (rd_T39 l i).f8.f2, .bool (rd_T39 l i).f9] rfl rfl 39 _ B6.out (by kernel_rfl) rfl (by simp [Value.oneCell']) ?_; intro v6 h6 q6; replace HP := Lib.hid (HP.out.grown q6 N6.out.2.2.2 N6.out.1 N6.out.2.1 N6.out.2.2.1); replace B6 := Lib.hid h6; clear h6 q6)
          | ((with_reducible refine gate_dst (N := 20) rfl ?_); refine wpList_load_row rfl 39 (.tmp 6) rfl g6 rfl 39 #[.int .i64 (rd_T39 l i).f0, .int .i64 (rd_T39 l i).f1, .bool (rd_T39 l i).f2, .string (rd_T39 l i).f3, .int .i64 (rd_T39 l i).f4.f0, .string (rd_T39 l i).f4.f1, .string (rd_T39 l i).f4.f2, .int .i64 (rd_T39 l i).f4.f3, .int .i64 (rd_T39 l i).f5, .int .i64 (rd_T39 l i).f6, .int .i64 (rd_T39 l i).f7.f0, .int .i64 (rd_T39 l i).f7.f1, .string (rd_T39 l i).f8.f0, .string (rd_T39 l i).f8.f1, .int .i64 (rd_T39 l i).f8.f2, .bool (rd_T39 l i).f9] (0, 0) _ B6.out Try.underlying39 rfl (by kernel_rfl) ?_)
          | (go_at_call 42; (with_reducible refine (HA.out _).mono ?_); rintro e_ W_ ⟨rfl, hb⟩; replace HP := Lib.hid (HP.out.below hb); clear hb)
          | ((with_reducible refine gate_dst (N := 25) rfl ?_); refine wpList_load_cell rfl 3 (.tmp 24) rfl gp 4 rfl _ _ HP.out.hp (.int .i64 (cntA l i.toNat : Int)) rfl _ Try.underlying3 rfl ?_)
          | ((with_reducible refine gate_store (t := 3) (p := 28) rfl ?_); refine store_cell_event rfl 3 (.tmp 28) (.tmp 26) rfl gp 4 (.int .i64 ((cntA l i.toNat + 1 : Nat) : Int)) rfl rfl 174 _ HP.out.hp (by show 4 < 5; decide) (by kernel_rfl) rfl rfl ?_; intro v28 h_ q_; have HP2 := Lib.hid (Pre.left HP.out (left' := cntA l i.toNat + 1) h_ q_); clear HP; have HP := HP2; clear HP2 h_ q_)
          | (fail))
        go_roundw
        case rel => exact ⟨i + 1, by first | rfl | go_num, ⟨by have := PI.out; omega, by have := PI.out; omega⟩, by rw [EI.out, HS.out]; exact HP⟩
        case measure => have := PI.out; simp [intOf]; omega
      | false =>
        rw [ha] at HA
        have HS := Lib.hid (show cntA l (i.toNat + 1) = cntA l i.toNat by rw [HS1.out, if_neg (by rw [show ansB (cl l i.toNat) = false from ha]; decide)]; rfl)
        clear ha
        go_wp2_with (first
          | ((with_reducible refine gate_dst (N := 19) rfl ?_); refine wpList_load_p rfl 39 (.tmp 18) rfl (ad.add (i.toNat * 16)) rfl [.int .i64 (rd_T39 l i).f0, .int .i64 (rd_T39 l i).f1, .bool (rd_T39 l i).f2, .string (rd_T39 l i).f3, .int .i64 (rd_T39 l i).f4.f0, .string (rd_T39 l i).f4.f1, .string (rd_T39 l i).f4.f2, .int .i64 (rd_T39 l i).f4.f3, .int .i64 (rd_T39 l i).f5, .int .i64 (rd_T39 l i).f6, .int .i64 (rd_T39 l i).f7.f0, .int .i64 (rd_T39 l i).f7.f1, .string (rd_T39 l i).f8.f0, .string (rd_T39 l i).f8.f1, .int .i64 (rd_T39 l i).f8.f2, .bool (rd_T39 l i).f9] _ RK.out Try.underlying39 rfl (by kernel_rfl) ?_)
          | ((with_reducible refine gate_dst (N := 6) rfl ?_); refine box_event rfl (N := 6) rfl (cs := #[.int .i64 0, .int .i64 0, .bool false, .string ⟨#[]⟩, .int .i64 0, .string ⟨#[]⟩, .string ⟨#[]⟩, .int .i64 0, .int .i64 0, .int .i64 0, .int .i64 0, .int .i64 0, .string ⟨#[]⟩, .string ⟨#[]⟩, .int .i64 0, .bool false]) (t := 39) (by first | (go_simp; done) | (go_simp; rfl)) ?_; intro g6 e6 w6 h6 b6; have N6 := Lib.hid (show g6 ≠ gp ∧ g6 ≠ gi ∧ g6 ≠ bm ∧ w.heap.size ≤ g6 by have h1 := blk_lt HP.out.hp; have h2 := blk_lt HP.out.hi; have h3 := HP.out.hm.lt; have h4 := HP.out.hb.size; omega); replace HP := Lib.hid (HP.out.below b6); have B6 := Lib.hid h6; clear h6 b6 e6)
          | ((with_reducible refine gate_store (t := 39) (p := 6) rfl ?_); refine store_row_event rfl 39 (.tmp 6) (.tmp 19) rfl g6 #[.int .i64 (rd_T39 l i).f0, .int .i64 (rd_T39 l i).f1, .bool (rd_T39 l i).f2, .string (rd_T39 l i).f3, .int .i64 (rd_T39 l i).f4.f0, .string (rd_T39 l i).f4.f1, .string (rd_T39 l i).f4.f2, .int .i64 (rd_T39 l i).f4.f3, .int .i64 (rd_T39 l i).f5, .int .i64 (rd_T39 l i).f6, .int .i64 (rd_T39 l i).f7.f0, .int .i64 (rd_T39 l i).f7.f1, .string (rd_T39 l i).f8.f0, .string (rd_T39 l i).f8.f1, .int .i64 (rd_T39 l i).f8.f2, .bool (rd_T39 l i).f9] rfl rfl 39 _ B6.out (by kernel_rfl) rfl (by simp [Value.oneCell']) ?_; intro v6 h6 q6; replace HP := Lib.hid (HP.out.grown q6 N6.out.2.2.2 N6.out.1 N6.out.2.1 N6.out.2.2.1); replace B6 := Lib.hid h6; clear h6 q6)
          | ((with_reducible refine gate_dst (N := 20) rfl ?_); refine wpList_load_row rfl 39 (.tmp 6) rfl g6 rfl 39 #[.int .i64 (rd_T39 l i).f0, .int .i64 (rd_T39 l i).f1, .bool (rd_T39 l i).f2, .string (rd_T39 l i).f3, .int .i64 (rd_T39 l i).f4.f0, .string (rd_T39 l i).f4.f1, .string (rd_T39 l i).f4.f2, .int .i64 (rd_T39 l i).f4.f3, .int .i64 (rd_T39 l i).f5, .int .i64 (rd_T39 l i).f6, .int .i64 (rd_T39 l i).f7.f0, .int .i64 (rd_T39 l i).f7.f1, .string (rd_T39 l i).f8.f0, .string (rd_T39 l i).f8.f1, .int .i64 (rd_T39 l i).f8.f2, .bool (rd_T39 l i).f9] (0, 0) _ B6.out Try.underlying39 rfl (by kernel_rfl) ?_)
          | (go_at_call 42; (with_reducible refine (HA.out _).mono ?_); rintro e_ W_ ⟨rfl, hb⟩; replace HP := Lib.hid (HP.out.below hb); clear hb)
          | (fail))
        go_roundw
        case rel => exact ⟨i + 1, by first | rfl | go_num, ⟨by have := PI.out; omega, by have := PI.out; omega⟩, by rw [EI.out, HS.out]; exact HP⟩
        case measure => have := PI.out; simp [intOf]; omega
    · have hnl : decide (i < (l.length : Int)) = false := decide_eq_false hlt
      have ei : i = (l.length : Int) := by omega
      subst ei
      have HS := Lib.hid (Pre.st (l := l) HP.out)
      clear i0 i1 hlt HP
      have HRUN := Lib.hid (show ∀ W, St w A c l gp gi bm W [] 0 zK (.slice none 0 0) → Calls Try.prog 91 #[.pointer (some ⟨gp, 0, none⟩)] W fun e w' => RunTo w A c l gp gi bm W 0 f [] zK (.slice none 0 0) e w' from by
        intro W hW
        cases A with
        | some ad => exact run_any w ad c l gp gi bm HR.out HC.out HN.out HKK.out f [] zK (.slice none 0 0) 0 W List.nodup_nil (fun x hx => by cases hx) (by have := HFF.out; simp; omega) (by have := HTT.out; omega) hW
        | none =>
          have hl : l = [] := by
            cases l with
            | nil => rfl
            | cons x t =>
              obtain ⟨ad, e, _⟩ := row39 HR.out 0 (by omega) (by simp)
              cases e
          subst hl
          exact run_whole_none w c gp gi bm f W hW)
      cases hg : goF l f [] zK with
      | some r =>
        have HG := Lib.hid hg
        clear hg
        go_wp2_with (first
          | (go_at_call 91; (with_reducible refine (HRUN.out _ HS.out).mono ?_); rintro e_ W9 h9; obtain ⟨rfl, v9, n9, m9, hs9, hk9⟩ := run_yes HG.out h9; have HS9 := Lib.hid hs9; have k9 : W9.cell? ⟨gp, 3, none⟩ = some v9 := (blk_cell hs9.hp 3).trans rfl; clear hs9 hk9 h9)
          | (fail))
        go_ret2
        rw [HG.out]
        exact ⟨v9, rfl, HS9.out.ho, HS9.out.hb⟩
      | none =>
        have HG := Lib.hid hg
        clear hg
        go_wp2_with (first
          | (go_at_call 91; (with_reducible refine (HRUN.out _ HS.out).mono ?_); rintro e_ W9 h9; obtain ⟨rfl, v9, n9, hn9, hs9, hk9, hb9⟩ := run_no HG.out h9; have HS9 := Lib.hid hs9; clear hs9 hk9 hb9 h9 hn9)
          | (fail))
        go_ret2
        rw [HG.out]
        exact ⟨.slice none 0 0, rfl, World.ownsRow_nil _ _ _ _, HS9.out.hb⟩

open Classical in
/-- What Search answers. -/
noncomputable def srcF (l : List S39) : Option (List Nat) := if refF l = 0 ∧ l.length ≤ 10 then goF l 10 [] zK else none
noncomputable def srcE (l : List S39) : Int := if refF l = 0 then (if l.length ≤ 10 then 0 else 261) else 260
def SrcTo (w : World) (l : List S39) (e : Ending) (w' : World) : Prop :=
  ∃ v, e = .returned (.tuple #[v, .bool (srcF l).isSome, .int .i64 (srcE l)]) ∧ w'.ownsRow w.heap.size 3 1 v ((srcF l).getD []).length (ordV ((srcF l).getD [])) ∧ Below w.heap.size w w'
theorem tc_ten : Tc 10 10 ≤ 1000000000000000 := by decide
theorem tc_mono {a b : Nat} (h : a ≤ b) : ∀ f, Tc a f ≤ Tc b f
  | 0 => Nat.le_refl _
  | f + 1 => Nat.mul_le_mul h (Nat.add_le_add_right (tc_mono h f) 2)
theorem ref_two (l : List S39) : refF l = 0 ∨ refF l = 260 := by
  unfold refF
  split
  · exact .inl rfl
  · exact .inr rfl
set_option maxRecDepth 100000 in
set_option maxHeartbeats 16000000 in
theorem search_any (w : World) (A : Option Addr) (c : Nat) (l : List S39) (hr : Kd.C k39 w A l.length l) (hc : l.length ≤ c) (hn : l.length ≤ 1000000000000) (hwf : ∀ x ∈ l, wfC x) (hks : ∀ i : Int, 0 ≤ i → i < l.length → (rd_T39 l i).f3.size ≤ maxLen) :
    Calls Try.prog 33 #[.slice A l.length c] w fun e w' => SrcTo w l e w' := by
  have HCHK := Lib.hid (fun r (h : refF l = r) => linear_Check.calls A c l r w hr hc (by unfold linear_Check.f; rw [if_pos ⟨hn, hwf⟩, h]))
  have HR := Lib.hid hr
  have HC := Lib.hid hc
  have HKK := Lib.hid hks
  clear hr hwf hks
  rcases ref_two l with he | he
  · by_cases hl : l.length ≤ 10
    · have HE := Lib.hid (And.intro (show srcF l = goF l 10 [] zK from if_pos ⟨he, hl⟩) (show srcE l = 0 by unfold srcE; rw [if_pos he, if_pos hl]))
      have HCH := Lib.hid (HCHK.out 0 he)
      have HL := Lib.hid hl
      have hl1 : decide ((10 : Int) < (l.length : Int)) = false := by rw [decide_eq_false_iff_not]; omega
      have hl2 : decide (10 < l.length) = false := by rw [decide_eq_false_iff_not]; omega
      clear he hl hn
      go_enter Try.func33, Try.ntmps33
      go_wp2_with (first
        | (go_at_call 16; (with_reducible refine HCH.out.mono ?_); rintro e_ W_ ⟨rfl, hb⟩; have HB := Lib.hid hb; clear hb)
        | (go_at_call 56; (with_reducible refine (witness_any _ A c l 10 (Kd.C_below HR.out HB.out) HC.out (by have := HL.out; omega) HL.out (Nat.le_trans (tc_mono HL.out 10) tc_ten) HKK.out).mono ?_); rintro e_ W9 h9; unfold WitTo at h9; obtain ⟨v9, rfl, ho9, hb9⟩ := h9; have HO := Lib.hid (And.intro ho9 hb9); clear ho9 hb9)
        | (fail))
      go_ret3
      unfold SrcTo
      rw [HE.out.1, HE.out.2]
      exact ⟨v9, rfl, owns_base HO.out.1 HB.out.size, HB.out.trans (HO.out.2.mono HB.out.size)⟩
    · have HE := Lib.hid (And.intro (show srcF l = none from if_neg (fun h => hl h.2)) (show srcE l = 261 by unfold srcE; rw [if_pos he, if_neg hl]))
      have HCH := Lib.hid (HCHK.out 0 he)
      have hl1 : decide ((10 : Int) < (l.length : Int)) = true := by rw [decide_eq_true_eq]; omega
      have hl2 : decide (10 < l.length) = true := by rw [decide_eq_true_eq]; omega
      clear he hl hn
      go_enter Try.func33, Try.ntmps33
      go_wp2_with (first
        | (go_at_call 16; (with_reducible refine HCH.out.mono ?_); rintro e_ W_ ⟨rfl, hb⟩; have HB := Lib.hid hb; clear hb)
        | (fail))
      go_ret3
      unfold SrcTo
      rw [HE.out.1, HE.out.2]
      exact ⟨.slice none 0 0, rfl, World.ownsRow_nil _ _ _ _, HB.out⟩
  · have HE := Lib.hid (And.intro (show srcF l = none from if_neg (fun h => by rw [he] at h; exact absurd h.1 (by decide))) (show srcE l = 260 by unfold srcE; rw [if_neg (by rw [he]; decide)]))
    have HCH := Lib.hid (HCHK.out 260 he)
    clear he hn
    go_enter Try.func33, Try.ntmps33
    go_wp2_with (first
      | (go_at_call 16; (with_reducible refine HCH.out.mono ?_); rintro e_ W_ ⟨rfl, hb⟩; have HB := Lib.hid hb; clear hb)
      | (fail))
    go_ret3
    unfold SrcTo
    rw [HE.out.1, HE.out.2]
    exact ⟨.slice none 0 0, rfl, World.ownsRow_nil _ _ _ _, HB.out⟩
end Go.Proofs.Ytbakmkoppieelaa.PLinearChecks

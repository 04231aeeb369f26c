/- What is proved: one round of the search's run, the run below it given. -/
import Derived.Test.YtbakmkoppieelaaLSeaU
namespace Go.Proofs.Ytbakmkoppieelaa.PLinearChecks
open Go.RowKit Go.Proofs.YtbakmkoppieelaaW.PrintWords Go.Proofs.YtbakmkoppieelaaW.PrintLast Go.Proofs.YtbakmkoppieelaaW.PrintMore
set_option linter.unusedVariables false
set_option linter.unusedSimpArgs false
def run.T6 : Bool × List (List Nat × List Nat) := (true, [([], []), ([0], [0]), ([1], [1]), ([2], [2]), ([], []), ([3, 4], [3, 4]), ([5], [5]), ([6], [6]), ([7], [7]), ([8], [8]), ([9, 8], [8, 9]), ([10, 8, 8], [8, 10]), ([11], [11]), ([12, 11, 11], [11, 12]), ([13, 11], [11, 13]), ([11, 14, 8], [8, 11, 14]), ([8, 15], [8, 15]), ([16, 13], [16]), ([17], [17]), ([18, 17], [17, 18]), ([19, 17], [17, 19]), ([20, 17], [17, 20]), ([17], [17]), ([22, 17], [17, 22]), ([23, 17], [17, 23]), ([24, 17], [17, 24]), ([17], [17]), ([21, 25, 26, 17, 17], [17, 21, 25, 26]), ([27, 17], [17, 27]), ([17, 28], [17, 28])])
def run.B6 : List Nat := [0, 1, 3, 7, 0, 31, 63, 127, 255, 511, 1023, 2047, 4095, 8191, 16383, 32767, 65535, 131071, 262143, 524287, 1048575, 2097151, 262143, 4456447, 12845055, 29622271, 262143, 134217727, 268435455, 536870911]
theorem run.tab6 : rtab .any (opsOf Try.f91 6) = run.T6 := by kernel_rfl
theorem run.bits6 : waitsOk run.T6.2 run.B6 = true := by kernel_rfl
def run.T7 : Bool × List (List Nat × List Nat) := (true, [([], []), ([0], [0]), ([1], [1]), ([2], [2]), ([], []), ([3, 4], [3, 4]), ([5], [5]), ([6], [6]), ([6], [6]), ([], []), ([9, 7, 5, 0, 1, 2, 3, 4, 5, 6, 7, 9], [7, 9]), ([8, 10, 0, 1, 2, 3, 4, 5, 6, 7, 8, 9, 10], [8])])
def run.B7 : List Nat := [0, 1, 3, 7, 0, 31, 63, 127, 127, 0, 767, 2047]
theorem run.tab7 : rtab .any (opsOf Try.f91 7) = run.T7 := by kernel_rfl
theorem run.bits7 : waitsOk run.T7.2 run.B7 = true := by kernel_rfl
def run.T13 : Bool × List (List Nat × List Nat) := (true, [([], []), ([0], [0]), ([1], [1]), ([2], [2]), ([], []), ([4], [4]), ([], []), ([3, 5, 6, 0, 1, 2, 3, 4, 5, 6], [3, 5, 6])])
def run.B13 : List Nat := [0, 1, 3, 7, 0, 16, 0, 127]
theorem run.tab13 : rtab .any (opsOf Try.f91 13) = run.T13 := by kernel_rfl
theorem run.bits13 : waitsOk run.T13.2 run.B13 = true := by kernel_rfl
theorem store_row_K {P : Program} {o : Oper} {a : Act} {w : World} {K : Act → World → Prop} {Q : Exit → Act → World → Prop} (ty : TypeId) (x y : Operand) (ho : o.op = .store ty x y)
    (g : Nat) (cells : Array Value) (hx : a.eval x = .pointer (some ⟨g, 0, none⟩)) (hy : a.eval y = .agg cells) (t : TypeId) (old : Array Value) (hg : w.heap[g]? = some (.cells old t (0, 0))) (hi : (P.info? ty).map (·.size) = some cells.size)
    (hold : old.size = cells.size) (h1 : cells.all (·.oneCell') = true) (h : ∀ w', w'.heap[g]? = some (.cells cells t (0, 0)) → w.grownBy w' (some g) → K (a.put o.dst undef) w') : o.wp P a w K Q := by
  refine wp_store_row ty x y ho g cells hx hy t old hg hi hold h1 (h _ ?_ ⟨rfl, rfl, rfl, by simp [World.setRow], fun k hk hne => ?_⟩)
  · exact setRow_heap w g old cells t (0, 0) hg
  · have hk2 : g ≠ k := fun e => hne (by rw [e])
    simp [World.setRow, Array.getElem?_modify, hk2]
theorem run_no {w0 : World} {A : Option Addr} {c : Nat} {l : List S39} {p bi bm : Nat} {w : World} {n f : Nat} {o : List Nat} {m : KF} {v : Value} {e : Ending} {w' : World} (hg : goF l f o m = none) (h : RunTo w0 A c l p bi bm w n f o m v e w') :
    e = .returned (.bool false) ∧ ∃ v' n', n' ≤ n + Tc l.length f ∧ St w0 A c l p bi bm w' o n' m v' ∧ Keep (Xs p bi bm v) w w' ∧ NewB w v v' := by
  rcases h with ⟨r, v', n', m', h1, _⟩ | ⟨_, h2⟩
  · rw [hg] at h1; cases h1
  · exact h2
theorem run_yes {w0 : World} {A : Option Addr} {c : Nat} {l : List S39} {p bi bm : Nat} {w : World} {n f : Nat} {o r : List Nat} {m : KF} {v : Value} {e : Ending} {w' : World} (hg : goF l f o m = some r) (h : RunTo w0 A c l p bi bm w n f o m v e w') :
    e = .returned (.bool true) ∧ ∃ v' n' m', St w0 A c l p bi bm w' r n' m' v' ∧ Keep (Xs p bi bm v) w w' := by
  rcases h with ⟨r', v', n', m', h1, h2, h3⟩ | ⟨h1, _⟩
  · rw [hg] at h1; injection h1 with h1; subst h1; exact ⟨h2, v', n', m', h3⟩
  · rw [hg] at h1; cases h1
def IHof (w0 : World) (ad : Addr) (c : Nat) (l : List S39) (gp gi bm f : Nat) : Prop := ∀ (o : List Nat) (m : KF) (v : Value) (n : Nat) (w : World), o.Nodup → (∀ x ∈ o, x < l.length) → l.length ≤ o.length + f → n + Tc l.length f ≤ 1000000000000000 → St w0 (some ad) c l gp gi bm w o n m v →
    Calls Try.prog 91 #[.pointer (some ⟨gp, 0, none⟩)] w fun e w' => RunTo w0 (some ad) c l gp gi bm w n f o m v e w'
theorem ih_use {w0 : World} {ad : Addr} {c : Nat} {l : List S39} {gp gi bm f : Nat} (h : IHof w0 ad c l gp gi bm f) (o : List Nat) (m : KF) (v : Value) (n : Nat) (w : World) (h1 : o.Nodup) (h2 : ∀ x ∈ o, x < l.length) (h3 : l.length ≤ o.length + f) (h4 : n + Tc l.length f ≤ 1000000000000000) (hs : St w0 (some ad) c l gp gi bm w o n m v) :
    Calls Try.prog 91 #[.pointer (some ⟨gp, 0, none⟩)] w fun e w' => RunTo w0 (some ad) c l gp gi bm w n f o m v e w' := h o m v n w h1 h2 h3 h4 hs
theorem tc_step {L T i : Nat} (h : i < L) : i * (T + 2) + (T + 2) ≤ L * (T + 2) := by
  have h2 : (i + 1) * (T + 2) ≤ L * (T + 2) := Nat.mul_le_mul_right _ h
  rw [Nat.add_mul] at h2
  omega
def AtI (w0 : World) (ad : Addr) (c : Nat) (l : List S39) (gp gi bm f : Nat) (o : List Nat) (m : KF) (v : Value) (n : Nat) (w : World) (i : Nat) (W : World) : Prop := ∃ v' n', n' ≤ n + i * (Tc l.length f + 2) ∧ St w0 (some ad) c l gp gi bm W o n' m v' ∧ Keep (Xs gp gi bm v) w W ∧ NewB w v v'
set_option maxRecDepth 100000 in
set_option maxHeartbeats 32000000 in
theorem run_whole (w0 : World) (ad : Addr) (c : Nat) (l : List S39) (gp gi bm f : Nat) (o : List Nat) (m : KF) (v : Value) (n : Nat) (w : World) (hw : whlB l o = true) (hs : St w0 (some ad) c l gp gi bm w o n m v) :
    Calls Try.prog 91 #[.pointer (some ⟨gp, 0, none⟩)] w fun e w' => RunTo w0 (some ad) c l gp gi bm w n f o m v e w' := by
  have HS := Lib.hid hs
  have HW := Lib.hid hw
  have k1 : w.cell? ⟨gp, 4, none⟩ = some (.int .i64 (leftN l o : Int)) := (blk_cell hs.hp 4).trans rfl
  rw [show leftN l o = 0 from left_zero.mpr hw] at k1
  clear hs hw
  go_enter Try.func91, Try.ntmps91
  go_wp2
  go_ret
  exact Or.inl ⟨o, v, n, m, go_whole HW.out, rfl, HS.out, Keep.refl _ _⟩
set_option maxRecDepth 100000 in
set_option maxHeartbeats 64000000 in
theorem run_step (w0 : World) (ad : Addr) (c : Nat) (l : List S39) (gp gi bm f : Nat) (hr : Kd.C k39 w0 (some ad) l.length l) (hc : l.length ≤ c) (hn : l.length ≤ 1000000) (hks : ∀ i : Int, 0 ≤ i → i < l.length → (rd_T39 l i).f3.size ≤ maxLen) (ih : IHof w0 ad c l gp gi bm f)
    (o : List Nat) (m : KF) (v : Value) (n : Nat) (w : World) (hw : whlB l o = false) (hnd : o.Nodup) (hlt : ∀ x ∈ o, x < l.length) (hlf : l.length ≤ o.length + (f + 1)) (hT : n + Tc l.length (f + 1) ≤ 1000000000000000) (hs : St w0 (some ad) c l gp gi bm w o n m v) :
    Calls Try.prog 91 #[.pointer (some ⟨gp, 0, none⟩)] w fun e w' => RunTo w0 (some ad) c l gp gi bm w n (f + 1) o m v e w' := by
  have HS0 := Lib.hid hs
  have HW := Lib.hid hw
  have HR := Lib.hid hr
  have HC := Lib.hid hc
  have HN := Lib.hid hn
  have HKK := Lib.hid hks
  have IH := Lib.hid ih
  have HT := Lib.hid (show n + l.length * (Tc l.length f + 2) ≤ 1000000000000000 from hT)
  have HD := Lib.hid (And.intro hnd (And.intro hlt hlf))
  have HOL := Lib.hid (nodup_len l.length o hnd hlt)
  have hx : leftN l o ≠ 0 := fun e => by rw [left_zero.mp e] at hw; cases hw
  have k1 : w.cell? ⟨gp, 4, none⟩ = some (.int .i64 (leftN l o : Int)) := (blk_cell hs.hp 4).trans rfl
  have k2 : w.cell? ⟨gp, 0, none⟩ = some (.slice (some ad) l.length c) := (blk_cell hs.hp 0).trans rfl
  have k3 : ((leftN l o : Int) == 0) = false := by rw [beq_eq_false_iff_ne]; omega
  have k4 : (leftN l o == 0) = false := by rw [beq_eq_false_iff_ne]; exact hx
  clear hs hw hr hn hks ih hT hnd hlt hlf hx hc
  go_enter Try.func91, Try.ntmps91
  go_wp2
  clear k1 k2 k3 k4
  go_loopw [17] (fun v17 wr => ∃ i : Int, v17 = .int .i64 i ∧ (0 ≤ i ∧ i ≤ (l.length : Int)) ∧ RowKit.Hid (∀ j : Nat, (j : Int) < i → tryF l f o m j = none) ∧ RowKit.Hid (AtI w0 ad c l gp gi bm f o m v n w i.toNat wr)) (fun v17 _ => ((l.length : Int) - intOf v17).toNat)
  case atStart => exact ⟨0, rfl, ⟨by omega, by omega⟩, Lib.hid (fun j hj => by omega), Lib.hid ⟨v, n, by omega, HS0.out, Keep.refl _ _, NewB.refl _ _⟩⟩
  case round =>
    obtain ⟨i, rfl, ⟨i0, i1⟩, HJ, HAI⟩ := hrel
    by_cases hlt : i < (l.length : Int)
    · have c1 : decide (i < (l.length : Int)) = true := decide_eq_true hlt
      obtain ⟨v', n', hn', hs', hk', hb'⟩ := HAI.out
      have HKW0 := Lib.hid hk'.size
      have HS := Lib.hid hs'
      have HKW := Lib.hid (And.intro hk' hb')
      have HN1 := Lib.hid hn'
      have PI := Lib.hid (show 0 ≤ i ∧ i < (l.length : Int) ∧ i.toNat < l.length by omega)
      have HQ := Lib.hid (tc_step (T := Tc l.length f) PI.out.2.2)
      have HKS := Lib.hid (HKK.out i i0 hlt)
      have pI := eq_true i0
      have qI := eq_true hlt
      have wi : wrap64 (i + 1) = i + 1 := by have h2 := HN.out; unfold wrap64; omega
      have wi2 : IntKind.i64.wrap (i + 1) = i + 1 := (i64_w _).trans wi
      clear hn' hs' hk' hb' i0 i1 hlt HAI
      go_upto_region 6 with (first
        | ((with_reducible refine gate_dst (N := 21) rfl ?_); refine wpList_load_p rfl 39 (.tmp 20) rfl (ad.add (i.toNat * 16)) rfl [.int .i64 (rd_T39 l i).f0, .int .i64 (rd_T39 l i).f1, .bool (rd_T39 l i).f2, .string (rd_T39 l i).f3, .int .i64 (rd_T39 l i).f4.f0, .string (rd_T39 l i).f4.f1, .string (rd_T39 l i).f4.f2, .int .i64 (rd_T39 l i).f4.f3, .int .i64 (rd_T39 l i).f5, .int .i64 (rd_T39 l i).f6, .int .i64 (rd_T39 l i).f7.f0, .int .i64 (rd_T39 l i).f7.f1, .string (rd_T39 l i).f8.f0, .string (rd_T39 l i).f8.f1, .int .i64 (rd_T39 l i).f8.f2, .bool (rd_T39 l i).f9] _ (row39' (HS.out.reads HR.out) i PI.out.1 PI.out.2.1) Try.underlying39 rfl (by kernel_rfl) ?_)
        | ((with_reducible refine gate_dst (N := 4) rfl ?_); refine box_event rfl (N := 4) rfl (cs := #[.int .i64 0, .int .i64 0, .bool false, .string ⟨#[]⟩, .int .i64 0, .string ⟨#[]⟩, .string ⟨#[]⟩, .int .i64 0, .int .i64 0, .int .i64 0, .int .i64 0, .int .i64 0, .string ⟨#[]⟩, .string ⟨#[]⟩, .int .i64 0, .bool false]) (t := 39) (by first | (go_simp; done) | (go_simp; rfl)) ?_; intro g4 e4 w4 h4 b4; have HF4 := Lib.hid (show ¬ Xs gp gi bm v' g4 from fun hx => by have := (HS.out.lt hx).2; omega); have L4 := Lib.hid (show wr.heap.size ≤ g4 ∧ w0.heap.size ≤ g4 by have := HS.out.hb.size; omega); replace HS := Lib.hid (HS.out.below b4); replace HKW := Lib.hid (And.intro (HKW.out.1.below b4) HKW.out.2); have B4 := Lib.hid h4; clear h4 b4 e4)
        | ((with_reducible refine gate_store (t := 39) (p := 4) rfl ?_); refine store_row_event rfl 39 (.tmp 4) (.tmp 21) rfl g4 #[.int .i64 (rd_T39 l i).f0, .int .i64 (rd_T39 l i).f1, .bool (rd_T39 l i).f2, .string (rd_T39 l i).f3, .int .i64 (rd_T39 l i).f4.f0, .string (rd_T39 l i).f4.f1, .string (rd_T39 l i).f4.f2, .int .i64 (rd_T39 l i).f4.f3, .int .i64 (rd_T39 l i).f5, .int .i64 (rd_T39 l i).f6, .int .i64 (rd_T39 l i).f7.f0, .int .i64 (rd_T39 l i).f7.f1, .string (rd_T39 l i).f8.f0, .string (rd_T39 l i).f8.f1, .int .i64 (rd_T39 l i).f8.f2, .bool (rd_T39 l i).f9] rfl rfl 39 _ B4.out (by kernel_rfl) rfl (by simp [Value.oneCell']) ?_; intro v4 h4 q4; replace HKW := Lib.hid (And.intro (HKW.out.1.grown q4 (fun k_ e_ l_ => by injection e_ with e_; have := L4.out.1; have := HKW0.out; omega)) HKW.out.2); replace HS := Lib.hid (HS.out.grown q4 L4.out.2 HF4.out); replace B4 := Lib.hid h4; clear h4 q4)
        | (fail))
      simp only [Act.put]
      go_cut [51] (fun v51 wc => ∃ b : Bool, v51 = .bool b ∧ RowKit.Hid (nxtB l o i.toNat = !b) ∧ RowKit.Hid (Below v4.heap.size v4 wc))
      case first =>
        cases ho : o.contains i.toNat with
        | true =>
          have HO := Lib.hid (show (if o.contains i.toNat = true then (1 : Int) else 0) = 1 by rw [if_pos ho])
          have HX := Lib.hid (show nxtB l o i.toNat = !true by unfold nxtB; rw [ho]; rfl)
          clear ho
          as_aux_lemma =>
            refine start_ (n := 30) (S := fun w1 => Below v4.heap.size v4 w1) (ds := []) (ar 30 0) (by kernel_rfl) rfl rfl (below_drew1 (Below.refl _ _)) (fun hHeld => ?_); refine with_tabW run.tab6 run.bits6 (fun HT_ HW_ => ?_)
            have HB := Lib.hid (below_drew1 (Below.refl v4.heap.size v4))
            generalize v4.drew = wz at HB hHeld ⊢
            refine pY 0 (some 22) (ar 30 1) HT_ (h := ?_)
            refine pY 1 (some 23) (ar 30 2) HT_ (h := ?_)
            refine pY 2 (some 24) (ar 30 3) HT_ (h := ?_)
            refine take_ (i := 3) (N := (some 25)) (v := ?_) (a' := ?_) (ar 30 4) rfl rfl (take_ofW HT_.out HW_.out (by kernel_rfl)) (fun _ _ _ h => h) (Or.inl ⟨by rfl, ?_⟩) hHeld ?_ ?_; rotate_left; (· rintro w1 hs1; have kc : w1.cell? ⟨gp, 1, none⟩ = some (.slice (some ⟨gi, 0, none⟩) l.length l.length) := (blk_cell (blk_below HS.out.hp hs1) _).trans rfl; go_simp; with_reducible rfl); rotate_left; (· simp only [Act.put, List.setIfInBounds_toArray, List.set_cons_zero, List.set_cons_succ, i64_w, i32_w]; rfl)
            refine pY 4 (some 26) (ar 30 5) HT_ (h := ?_)
            refine pY 5 (some 27) (ar 30 6) HT_ (h := ?_)
            refine take_ (i := 6) (N := (some 28)) (v := ?_) (a' := ?_) (ar 30 7) rfl rfl (take_ofW HT_.out HW_.out (by kernel_rfl)) (fun _ _ _ h => h) (Or.inl ⟨by rfl, ?_⟩) hHeld ?_ ?_; rotate_left; (· rintro w1 hs1; have kc : w1.cell? ⟨gi, i.toNat, none⟩ = some (.int .i64 (if o.contains i.toNat = true then 1 else 0)) := (blk_cell (blk_below HS.out.hi hs1) _).trans (inV_at PI.out.2.2); rw [HO.out] at kc; go_simp; with_reducible rfl); rotate_left; (· simp only [Act.put, List.setIfInBounds_toArray, List.set_cons_zero, List.set_cons_succ, i64_w, i32_w]; rfl)
            refine pY 7 (some 29) (ar 30 8) HT_ (h := ?_)
            refine pY 8 (some 30) (ar 30 9) HT_ (h := ?_)
            refine sY 9 (some 31) (ar 30 10) HT_ (h := ?_)
            refine sY 10 (some 32) (ar 30 11) HT_ (h := ?_)
            refine sY 11 (some 33) (ar 30 12) HT_ (h := ?_)
            refine sY 12 (some 34) (ar 30 13) HT_ (h := ?_)
            refine sY 13 (some 35) (ar 30 14) HT_ (h := ?_)
            refine sY 14 (some 36) (ar 30 15) HT_ (h := ?_)
            refine sY 15 (some 37) (ar 30 16) HT_ (h := ?_)
            refine pY 16 (some 38) (ar 30 17) HT_ (h := ?_)
            refine pY 17 (some 39) (ar 30 18) HT_ (h := ?_)
            refine sY 18 (some 40) (ar 30 19) HT_ (h := ?_)
            refine sY 19 (some 41) (ar 30 20) HT_ (h := ?_)
            refine sY 20 (some 42) (ar 30 21) HT_ (h := ?_)
            refine sY 21 (some 43) (ar 30 22) HT_ (h := ?_)
            refine sY 22 (some 44) (ar 30 23) HT_ (h := ?_)
            refine sY 23 (some 45) (ar 30 24) HT_ (h := ?_)
            refine sY 24 (some 46) (ar 30 25) HT_ (h := ?_)
            refine sY 25 (some 47) (ar 30 26) HT_ (h := ?_)
            refine sY 26 (some 48) (ar 30 27) HT_ (h := ?_)
            refine sY 27 (some 49) (ar 30 28) HT_ (h := ?_)
            refine sY 28 (some 50) (ar 30 29) HT_ (h := ?_)
            refine pY 29 (some 51) (ar 30 30) HT_ (h := ?_)
            refine done_ (done_of HT_.out (by kernel_rfl)) ?_
            try go_wp2
            go_meet
            case rel => exact ⟨_, rfl, HX, HB⟩
        | false =>
          have HO := Lib.hid (show (if o.contains i.toNat = true then (1 : Int) else 0) = 0 by rw [if_neg (by rw [ho]; decide)])
          cases hrd : (rd_T39 l i).f2 with
          | false =>
            have HRD := Lib.hid hrd
            have HRY := Lib.hid (fun W (hW : Below v4.heap.size v4 W) => ready_any W (some ad) c l.length gi l o i (Kd.C_below (HS.out.reads HR.out) hW) HC.out (blk_below HS.out.hi hW) (Nat.le_refl _) (by have := HN.out; omega) PI.out.1 PI.out.2.1)
            cases hy : rdyB l o i.toNat with
            | false =>
              rw [hy] at HRY
              have HX := Lib.hid (show nxtB l o i.toNat = !true by unfold nxtB; rw [ho, hy, show (cl l i.toNat).f2 = false from hrd]; rfl)
              clear ho hy hrd
              as_aux_lemma =>
                refine start_ (n := 30) (S := fun w1 => Below v4.heap.size v4 w1) (ds := []) (ar 30 0) (by kernel_rfl) rfl rfl (below_drew1 (Below.refl _ _)) (fun hHeld => ?_); refine with_tabW run.tab6 run.bits6 (fun HT_ HW_ => ?_)
                have HB := Lib.hid (below_drew1 (Below.refl v4.heap.size v4))
                generalize v4.drew = wz at HB hHeld ⊢
                refine pY 0 (some 22) (ar 30 1) HT_ (h := ?_)
                refine pY 1 (some 23) (ar 30 2) HT_ (h := ?_)
                refine pY 2 (some 24) (ar 30 3) HT_ (h := ?_)
                refine take_ (i := 3) (N := (some 25)) (v := ?_) (a' := ?_) (ar 30 4) rfl rfl (take_ofW HT_.out HW_.out (by kernel_rfl)) (fun _ _ _ h => h) (Or.inl ⟨by rfl, ?_⟩) hHeld ?_ ?_; rotate_left; (· rintro w1 hs1; have kc : w1.cell? ⟨gp, 1, none⟩ = some (.slice (some ⟨gi, 0, none⟩) l.length l.length) := (blk_cell (blk_below HS.out.hp hs1) _).trans rfl; go_simp; with_reducible rfl); rotate_left; (· simp only [Act.put, List.setIfInBounds_toArray, List.set_cons_zero, List.set_cons_succ, i64_w, i32_w]; rfl)
                refine pY 4 (some 26) (ar 30 5) HT_ (h := ?_)
                refine pY 5 (some 27) (ar 30 6) HT_ (h := ?_)
                refine take_ (i := 6) (N := (some 28)) (v := ?_) (a' := ?_) (ar 30 7) rfl rfl (take_ofW HT_.out HW_.out (by kernel_rfl)) (fun _ _ _ h => h) (Or.inl ⟨by rfl, ?_⟩) hHeld ?_ ?_; rotate_left; (· rintro w1 hs1; have kc : w1.cell? ⟨gi, i.toNat, none⟩ = some (.int .i64 (if o.contains i.toNat = true then 1 else 0)) := (blk_cell (blk_below HS.out.hi hs1) _).trans (inV_at PI.out.2.2); rw [HO.out] at kc; go_simp; with_reducible rfl); rotate_left; (· simp only [Act.put, List.setIfInBounds_toArray, List.set_cons_zero, List.set_cons_succ, i64_w, i32_w]; rfl)
                refine pY 7 (some 29) (ar 30 8) HT_ (h := ?_)
                refine pY 8 (some 30) (ar 30 9) HT_ (h := ?_)
                refine pY 9 (some 31) (ar 30 10) HT_ (h := ?_)
                refine take_ (i := 10) (N := (some 32)) (v := ?_) (a' := ?_) (ar 30 11) rfl rfl (take_ofW HT_.out HW_.out (by kernel_rfl)) (fun _ _ _ h => h) (Or.inl ⟨by rfl, ?_⟩) hHeld ?_ ?_; rotate_left; (· rintro w1 hs1; have kc : w1.cell? ⟨g4, 2, none⟩ = some (.bool (rd_T39 l i).f2) := (blk_cell (blk_below B4.out hs1) _).trans rfl; rw [HRD.out] at kc; go_simp; with_reducible rfl); rotate_left; (· simp only [Act.put, List.setIfInBounds_toArray, List.set_cons_zero, List.set_cons_succ, i64_w, i32_w]; rfl)
                refine pY 11 (some 33) (ar 30 12) HT_ (h := ?_)
                refine sY 12 (some 34) (ar 30 13) HT_ (h := ?_)
                refine sY 13 (some 35) (ar 30 14) HT_ (h := ?_)
                refine sY 14 (some 36) (ar 30 15) HT_ (h := ?_)
                refine pY 15 (some 37) (ar 30 16) HT_ (h := ?_)
                refine pY 16 (some 38) (ar 30 17) HT_ (h := ?_)
                refine pY 17 (some 39) (ar 30 18) HT_ (h := ?_)
                refine pY 18 (some 40) (ar 30 19) HT_ (h := ?_)
                refine pY 19 (some 41) (ar 30 20) HT_ (h := ?_)
                refine pY 20 (some 42) (ar 30 21) HT_ (h := ?_)
                refine take_ (i := 21) (N := (some 43)) (v := ?_) (a' := ?_) (ar 30 22) rfl rfl (take_ofW HT_.out HW_.out (by kernel_rfl)) (fun _ _ _ h => h) (Or.inl ⟨by rfl, ?_⟩) hHeld ?_ ?_; rotate_left; (· rintro w1 hs1; have kc : w1.cell? ⟨gp, 0, none⟩ = some (.slice (some ad) l.length c) := (blk_cell (blk_below HS.out.hp hs1) _).trans rfl; go_simp; with_reducible rfl); rotate_left; (· simp only [Act.put, List.setIfInBounds_toArray, List.set_cons_zero, List.set_cons_succ, i64_w, i32_w]; rfl)
                refine pY 22 (some 44) (ar 30 23) HT_ (h := ?_)
                refine pY 23 (some 45) (ar 30 24) HT_ (h := ?_)
                refine pY 24 (some 46) (ar 30 25) HT_ (h := ?_)
                refine take_ (i := 25) (N := (some 47)) (v := ?_) (a' := ?_) (ar 30 26) rfl rfl (take_ofW HT_.out HW_.out (by kernel_rfl)) (fun _ _ _ h => h) (Or.inl ⟨by rfl, ?_⟩) hHeld ?_ ?_; rotate_left; (· rintro w1 hs1; have kc : w1.cell? ⟨gp, 1, none⟩ = some (.slice (some ⟨gi, 0, none⟩) l.length l.length) := (blk_cell (blk_below HS.out.hp hs1) _).trans rfl; go_simp; with_reducible rfl); rotate_left; (· simp only [Act.put, List.setIfInBounds_toArray, List.set_cons_zero, List.set_cons_succ, i64_w, i32_w]; rfl)
                refine pY 26 (some 48) (ar 30 27) HT_ (h := ?_)
                refine one_ (i := 27) (N := (some 49)) (ar 30 28) rfl rfl (one_of HT_.out (by kernel_rfl)) (by decide) (fun K hK => ?_); refine goes_ Try.func59 (by kernel_rfl) rfl #[.slice (some ad) l.length c, .slice (some ⟨gi, 0, none⟩) l.length l.length, .int .i64 i] (by rfl) rfl rfl (by (try simp only [List.map_toArray, List.map_cons, List.map_nil]); first | done | rfl) ?_; (with_reducible refine (HRY.out _ HB.out).mono ?_); rintro e w12 ⟨rfl, hb⟩; refine ⟨_, rfl, ?_⟩; replace HB := Lib.hid (below_step HB.out hb); clear hb; refine hK.out _ _ HB.out (fun hHeld => ?_); clear hK K; refine norm_ (a' := ?_) ?_ ?_; rotate_left; (· show Act.put _ (some 49) _ = _; simp only [Act.put, List.setIfInBounds_toArray, List.set_cons_zero, List.set_cons_succ, i64_w, i32_w]; rfl)
                refine pY 28 (some 50) (ar 30 29) HT_ (h := ?_)
                refine pY 29 (some 51) (ar 30 30) HT_ (h := ?_)
                refine done_ (done_of HT_.out (by kernel_rfl)) ?_
                try go_wp2
                go_meet
                case rel => exact ⟨_, rfl, HX, HB⟩
            | true =>
              rw [hy] at HRY
              have HX := Lib.hid (show nxtB l o i.toNat = !false by unfold nxtB; rw [ho, hy, show (cl l i.toNat).f2 = false from hrd]; rfl)
              clear ho hy hrd
              as_aux_lemma =>
                refine start_ (n := 30) (S := fun w1 => Below v4.heap.size v4 w1) (ds := []) (ar 30 0) (by kernel_rfl) rfl rfl (below_drew1 (Below.refl _ _)) (fun hHeld => ?_); refine with_tabW run.tab6 run.bits6 (fun HT_ HW_ => ?_)
                have HB := Lib.hid (below_drew1 (Below.refl v4.heap.size v4))
                generalize v4.drew = wz at HB hHeld ⊢
                refine pY 0 (some 22) (ar 30 1) HT_ (h := ?_)
                refine pY 1 (some 23) (ar 30 2) HT_ (h := ?_)
                refine pY 2 (some 24) (ar 30 3) HT_ (h := ?_)
                refine take_ (i := 3) (N := (some 25)) (v := ?_) (a' := ?_) (ar 30 4) rfl rfl (take_ofW HT_.out HW_.out (by kernel_rfl)) (fun _ _ _ h => h) (Or.inl ⟨by rfl, ?_⟩) hHeld ?_ ?_; rotate_left; (· rintro w1 hs1; have kc : w1.cell? ⟨gp, 1, none⟩ = some (.slice (some ⟨gi, 0, none⟩) l.length l.length) := (blk_cell (blk_below HS.out.hp hs1) _).trans rfl; go_simp; with_reducible rfl); rotate_left; (· simp only [Act.put, List.setIfInBounds_toArray, List.set_cons_zero, List.set_cons_succ, i64_w, i32_w]; rfl)
                refine pY 4 (some 26) (ar 30 5) HT_ (h := ?_)
                refine pY 5 (some 27) (ar 30 6) HT_ (h := ?_)
                refine take_ (i := 6) (N := (some 28)) (v := ?_) (a' := ?_) (ar 30 7) rfl rfl (take_ofW HT_.out HW_.out (by kernel_rfl)) (fun _ _ _ h => h) (Or.inl ⟨by rfl, ?_⟩) hHeld ?_ ?_; rotate_left; (· rintro w1 hs1; have kc : w1.cell? ⟨gi, i.toNat, none⟩ = some (.int .i64 (if o.contains i.toNat = true then 1 else 0)) := (blk_cell (blk_below HS.out.hi hs1) _).trans (inV_at PI.out.2.2); rw [HO.out] at kc; go_simp; with_reducible rfl); rotate_left; (· simp only [Act.put, List.setIfInBounds_toArray, List.set_cons_zero, List.set_cons_succ, i64_w, i32_w]; rfl)
                refine pY 7 (some 29) (ar 30 8) HT_ (h := ?_)
                refine pY 8 (some 30) (ar 30 9) HT_ (h := ?_)
                refine pY 9 (some 31) (ar 30 10) HT_ (h := ?_)
                refine take_ (i := 10) (N := (some 32)) (v := ?_) (a' := ?_) (ar 30 11) rfl rfl (take_ofW HT_.out HW_.out (by kernel_rfl)) (fun _ _ _ h => h) (Or.inl ⟨by rfl, ?_⟩) hHeld ?_ ?_; rotate_left; (· rintro w1 hs1; have kc : w1.cell? ⟨g4, 2, none⟩ = some (.bool (rd_T39 l i).f2) := (blk_cell (blk_below B4.out hs1) _).trans rfl; rw [HRD.out] at kc; go_simp; with_reducible rfl); rotate_left; (· simp only [Act.put, List.setIfInBounds_toArray, List.set_cons_zero, List.set_cons_succ, i64_w, i32_w]; rfl)
                refine pY 11 (some 33) (ar 30 12) HT_ (h := ?_)
                refine sY 12 (some 34) (ar 30 13) HT_ (h := ?_)
                refine sY 13 (some 35) (ar 30 14) HT_ (h := ?_)
                refine sY 14 (some 36) (ar 30 15) HT_ (h := ?_)
                refine pY 15 (some 37) (ar 30 16) HT_ (h := ?_)
                refine pY 16 (some 38) (ar 30 17) HT_ (h := ?_)
                refine pY 17 (some 39) (ar 30 18) HT_ (h := ?_)
                refine pY 18 (some 40) (ar 30 19) HT_ (h := ?_)
                refine pY 19 (some 41) (ar 30 20) HT_ (h := ?_)
                refine pY 20 (some 42) (ar 30 21) HT_ (h := ?_)
                refine take_ (i := 21) (N := (some 43)) (v := ?_) (a' := ?_) (ar 30 22) rfl rfl (take_ofW HT_.out HW_.out (by kernel_rfl)) (fun _ _ _ h => h) (Or.inl ⟨by rfl, ?_⟩) hHeld ?_ ?_; rotate_left; (· rintro w1 hs1; have kc : w1.cell? ⟨gp, 0, none⟩ = some (.slice (some ad) l.length c) := (blk_cell (blk_below HS.out.hp hs1) _).trans rfl; go_simp; with_reducible rfl); rotate_left; (· simp only [Act.put, List.setIfInBounds_toArray, List.set_cons_zero, List.set_cons_succ, i64_w, i32_w]; rfl)
                refine pY 22 (some 44) (ar 30 23) HT_ (h := ?_)
                refine pY 23 (some 45) (ar 30 24) HT_ (h := ?_)
                refine pY 24 (some 46) (ar 30 25) HT_ (h := ?_)
                refine take_ (i := 25) (N := (some 47)) (v := ?_) (a' := ?_) (ar 30 26) rfl rfl (take_ofW HT_.out HW_.out (by kernel_rfl)) (fun _ _ _ h => h) (Or.inl ⟨by rfl, ?_⟩) hHeld ?_ ?_; rotate_left; (· rintro w1 hs1; have kc : w1.cell? ⟨gp, 1, none⟩ = some (.slice (some ⟨gi, 0, none⟩) l.length l.length) := (blk_cell (blk_below HS.out.hp hs1) _).trans rfl; go_simp; with_reducible rfl); rotate_left; (· simp only [Act.put, List.setIfInBounds_toArray, List.set_cons_zero, List.set_cons_succ, i64_w, i32_w]; rfl)
                refine pY 26 (some 48) (ar 30 27) HT_ (h := ?_)
                refine one_ (i := 27) (N := (some 49)) (ar 30 28) rfl rfl (one_of HT_.out (by kernel_rfl)) (by decide) (fun K hK => ?_); refine goes_ Try.func59 (by kernel_rfl) rfl #[.slice (some ad) l.length c, .slice (some ⟨gi, 0, none⟩) l.length l.length, .int .i64 i] (by rfl) rfl rfl (by (try simp only [List.map_toArray, List.map_cons, List.map_nil]); first | done | rfl) ?_; (with_reducible refine (HRY.out _ HB.out).mono ?_); rintro e w12 ⟨rfl, hb⟩; refine ⟨_, rfl, ?_⟩; replace HB := Lib.hid (below_step HB.out hb); clear hb; refine hK.out _ _ HB.out (fun hHeld => ?_); clear hK K; refine norm_ (a' := ?_) ?_ ?_; rotate_left; (· show Act.put _ (some 49) _ = _; simp only [Act.put, List.setIfInBounds_toArray, List.set_cons_zero, List.set_cons_succ, i64_w, i32_w]; rfl)
                refine pY 28 (some 50) (ar 30 29) HT_ (h := ?_)
                refine pY 29 (some 51) (ar 30 30) HT_ (h := ?_)
                refine done_ (done_of HT_.out (by kernel_rfl)) ?_
                try go_wp2
                go_meet
                case rel => exact ⟨_, rfl, HX, HB⟩
          | true =>
            have HRD := Lib.hid hrd
            have HA := Lib.hid (fun W => ans_any (rd_T39 l i) W)
            cases ha : ansB (rd_T39 l i) with
            | false =>
              rw [ha] at HA
              have HX := Lib.hid (show nxtB l o i.toNat = !true by unfold nxtB; rw [ho, show (cl l i.toNat).f2 = true from hrd, show ansB (cl l i.toNat) = false from ha]; rfl)
              clear ho hrd ha
              as_aux_lemma =>
                refine start_ (n := 30) (S := fun w1 => Below v4.heap.size v4 w1) (ds := []) (ar 30 0) (by kernel_rfl) rfl rfl (below_drew1 (Below.refl _ _)) (fun hHeld => ?_); refine with_tabW run.tab6 run.bits6 (fun HT_ HW_ => ?_)
                have HB := Lib.hid (below_drew1 (Below.refl v4.heap.size v4))
                generalize v4.drew = wz at HB hHeld ⊢
                refine pY 0 (some 22) (ar 30 1) HT_ (h := ?_)
                refine pY 1 (some 23) (ar 30 2) HT_ (h := ?_)
                refine pY 2 (some 24) (ar 30 3) HT_ (h := ?_)
                refine take_ (i := 3) (N := (some 25)) (v := ?_) (a' := ?_) (ar 30 4) rfl rfl (take_ofW HT_.out HW_.out (by kernel_rfl)) (fun _ _ _ h => h) (Or.inl ⟨by rfl, ?_⟩) hHeld ?_ ?_; rotate_left; (· rintro w1 hs1; have kc : w1.cell? ⟨gp, 1, none⟩ = some (.slice (some ⟨gi, 0, none⟩) l.length l.length) := (blk_cell (blk_below HS.out.hp hs1) _).trans rfl; go_simp; with_reducible rfl); rotate_left; (· simp only [Act.put, List.setIfInBounds_toArray, List.set_cons_zero, List.set_cons_succ, i64_w, i32_w]; rfl)
                refine pY 4 (some 26) (ar 30 5) HT_ (h := ?_)
                refine pY 5 (some 27) (ar 30 6) HT_ (h := ?_)
                refine take_ (i := 6) (N := (some 28)) (v := ?_) (a' := ?_) (ar 30 7) rfl rfl (take_ofW HT_.out HW_.out (by kernel_rfl)) (fun _ _ _ h => h) (Or.inl ⟨by rfl, ?_⟩) hHeld ?_ ?_; rotate_left; (· rintro w1 hs1; have kc : w1.cell? ⟨gi, i.toNat, none⟩ = some (.int .i64 (if o.contains i.toNat = true then 1 else 0)) := (blk_cell (blk_below HS.out.hi hs1) _).trans (inV_at PI.out.2.2); rw [HO.out] at kc; go_simp; with_reducible rfl); rotate_left; (· simp only [Act.put, List.setIfInBounds_toArray, List.set_cons_zero, List.set_cons_succ, i64_w, i32_w]; rfl)
                refine pY 7 (some 29) (ar 30 8) HT_ (h := ?_)
                refine pY 8 (some 30) (ar 30 9) HT_ (h := ?_)
                refine pY 9 (some 31) (ar 30 10) HT_ (h := ?_)
                refine take_ (i := 10) (N := (some 32)) (v := ?_) (a' := ?_) (ar 30 11) rfl rfl (take_ofW HT_.out HW_.out (by kernel_rfl)) (fun _ _ _ h => h) (Or.inl ⟨by rfl, ?_⟩) hHeld ?_ ?_; rotate_left; (· rintro w1 hs1; have kc : w1.cell? ⟨g4, 2, none⟩ = some (.bool (rd_T39 l i).f2) := (blk_cell (blk_below B4.out hs1) _).trans rfl; rw [HRD.out] at kc; go_simp; with_reducible rfl); rotate_left; (· simp only [Act.put, List.setIfInBounds_toArray, List.set_cons_zero, List.set_cons_succ, i64_w, i32_w]; rfl)
                refine pY 11 (some 33) (ar 30 12) HT_ (h := ?_)
                refine take_ (i := 12) (N := (some 34)) (v := .agg #[.int .i64 (rd_T39 l i).f0, .int .i64 (rd_T39 l i).f1, .bool (rd_T39 l i).f2, .string (rd_T39 l i).f3, .int .i64 (rd_T39 l i).f4.f0, .string (rd_T39 l i).f4.f1, .string (rd_T39 l i).f4.f2, .int .i64 (rd_T39 l i).f4.f3, .int .i64 (rd_T39 l i).f5, .int .i64 (rd_T39 l i).f6, .int .i64 (rd_T39 l i).f7.f0, .int .i64 (rd_T39 l i).f7.f1, .string (rd_T39 l i).f8.f0, .string (rd_T39 l i).f8.f1, .int .i64 (rd_T39 l i).f8.f2, .bool (rd_T39 l i).f9]) (a' := ?_) (ar 30 13) rfl rfl (take_ofW HT_.out HW_.out (by kernel_rfl)) (fun _ _ _ h => h) (Or.inl ⟨by rfl, fun w1 hs1 => exec_load_p 39 (.tmp 4) rfl ⟨g4, 0, none⟩ rfl [.int .i64 (rd_T39 l i).f0, .int .i64 (rd_T39 l i).f1, .bool (rd_T39 l i).f2, .string (rd_T39 l i).f3, .int .i64 (rd_T39 l i).f4.f0, .string (rd_T39 l i).f4.f1, .string (rd_T39 l i).f4.f2, .int .i64 (rd_T39 l i).f4.f3, .int .i64 (rd_T39 l i).f5, .int .i64 (rd_T39 l i).f6, .int .i64 (rd_T39 l i).f7.f0, .int .i64 (rd_T39 l i).f7.f1, .string (rd_T39 l i).f8.f0, .string (rd_T39 l i).f8.f1, .int .i64 (rd_T39 l i).f8.f2, .bool (rd_T39 l i).f9] _ (blk_cells (blk_below B4.out hs1)) Try.underlying39 rfl (by kernel_rfl)⟩) hHeld ?_ ?_; rotate_left; (· simp only [Act.put, List.setIfInBounds_toArray, List.set_cons_zero, List.set_cons_succ, i64_w, i32_w]; rfl)
                refine one_ (i := 13) (N := (some 35)) (ar 30 14) rfl rfl (one_of HT_.out (by kernel_rfl)) (by decide) (fun K hK => ?_); refine goes_ Try.func42 (by kernel_rfl) rfl #[.agg #[.int .i64 (rd_T39 l i).f0, .int .i64 (rd_T39 l i).f1, .bool (rd_T39 l i).f2, .string (rd_T39 l i).f3, .int .i64 (rd_T39 l i).f4.f0, .string (rd_T39 l i).f4.f1, .string (rd_T39 l i).f4.f2, .int .i64 (rd_T39 l i).f4.f3, .int .i64 (rd_T39 l i).f5, .int .i64 (rd_T39 l i).f6, .int .i64 (rd_T39 l i).f7.f0, .int .i64 (rd_T39 l i).f7.f1, .string (rd_T39 l i).f8.f0, .string (rd_T39 l i).f8.f1, .int .i64 (rd_T39 l i).f8.f2, .bool (rd_T39 l i).f9]] (by rfl) rfl rfl (by (try simp only [List.map_toArray, List.map_cons, List.map_nil]); first | done | rfl) ?_; (with_reducible refine (HA.out _).mono ?_); rintro e w12 ⟨rfl, hb⟩; refine ⟨_, rfl, ?_⟩; replace HB := Lib.hid (below_step HB.out hb); clear hb; refine hK.out _ _ HB.out (fun hHeld => ?_); clear hK K; refine norm_ (a' := ?_) ?_ ?_; rotate_left; (· show Act.put _ (some 35) _ = _; simp only [Act.put, List.setIfInBounds_toArray, List.set_cons_zero, List.set_cons_succ, i64_w, i32_w]; rfl)
                refine pY 14 (some 36) (ar 30 15) HT_ (h := ?_)
                refine pY 15 (some 37) (ar 30 16) HT_ (h := ?_)
                refine pY 16 (some 38) (ar 30 17) HT_ (h := ?_)
                refine pY 17 (some 39) (ar 30 18) HT_ (h := ?_)
                refine sY 18 (some 40) (ar 30 19) HT_ (h := ?_)
                refine sY 19 (some 41) (ar 30 20) HT_ (h := ?_)
                refine sY 20 (some 42) (ar 30 21) HT_ (h := ?_)
                refine sY 21 (some 43) (ar 30 22) HT_ (h := ?_)
                refine sY 22 (some 44) (ar 30 23) HT_ (h := ?_)
                refine sY 23 (some 45) (ar 30 24) HT_ (h := ?_)
                refine sY 24 (some 46) (ar 30 25) HT_ (h := ?_)
                refine sY 25 (some 47) (ar 30 26) HT_ (h := ?_)
                refine sY 26 (some 48) (ar 30 27) HT_ (h := ?_)
                refine sY 27 (some 49) (ar 30 28) HT_ (h := ?_)
                refine sY 28 (some 50) (ar 30 29) HT_ (h := ?_)
                refine pY 29 (some 51) (ar 30 30) HT_ (h := ?_)
                refine done_ (done_of HT_.out (by kernel_rfl)) ?_
                try go_wp2
                go_meet
                case rel => exact ⟨_, rfl, HX, HB⟩
            | true =>
              rw [ha] at HA
              have HRY := Lib.hid (fun W (hW : Below v4.heap.size v4 W) => ready_any W (some ad) c l.length gi l o i (Kd.C_below (HS.out.reads HR.out) hW) HC.out (blk_below HS.out.hi hW) (Nat.le_refl _) (by have := HN.out; omega) PI.out.1 PI.out.2.1)
              cases hy : rdyB l o i.toNat with
              | false =>
                rw [hy] at HRY
                have HX := Lib.hid (show nxtB l o i.toNat = !true by unfold nxtB; rw [ho, hy, show (cl l i.toNat).f2 = true from hrd, show ansB (cl l i.toNat) = true from ha]; rfl)
                clear ho hy hrd
                as_aux_lemma =>
                  refine start_ (n := 30) (S := fun w1 => Below v4.heap.size v4 w1) (ds := []) (ar 30 0) (by kernel_rfl) rfl rfl (below_drew1 (Below.refl _ _)) (fun hHeld => ?_); refine with_tabW run.tab6 run.bits6 (fun HT_ HW_ => ?_)
                  have HB := Lib.hid (below_drew1 (Below.refl v4.heap.size v4))
                  generalize v4.drew = wz at HB hHeld ⊢
                  refine pY 0 (some 22) (ar 30 1) HT_ (h := ?_)
                  refine pY 1 (some 23) (ar 30 2) HT_ (h := ?_)
                  refine pY 2 (some 24) (ar 30 3) HT_ (h := ?_)
                  refine take_ (i := 3) (N := (some 25)) (v := ?_) (a' := ?_) (ar 30 4) rfl rfl (take_ofW HT_.out HW_.out (by kernel_rfl)) (fun _ _ _ h => h) (Or.inl ⟨by rfl, ?_⟩) hHeld ?_ ?_; rotate_left; (· rintro w1 hs1; have kc : w1.cell? ⟨gp, 1, none⟩ = some (.slice (some ⟨gi, 0, none⟩) l.length l.length) := (blk_cell (blk_below HS.out.hp hs1) _).trans rfl; go_simp; with_reducible rfl); rotate_left; (· simp only [Act.put, List.setIfInBounds_toArray, List.set_cons_zero, List.set_cons_succ, i64_w, i32_w]; rfl)
                  refine pY 4 (some 26) (ar 30 5) HT_ (h := ?_)
                  refine pY 5 (some 27) (ar 30 6) HT_ (h := ?_)
                  refine take_ (i := 6) (N := (some 28)) (v := ?_) (a' := ?_) (ar 30 7) rfl rfl (take_ofW HT_.out HW_.out (by kernel_rfl)) (fun _ _ _ h => h) (Or.inl ⟨by rfl, ?_⟩) hHeld ?_ ?_; rotate_left; (· rintro w1 hs1; have kc : w1.cell? ⟨gi, i.toNat, none⟩ = some (.int .i64 (if o.contains i.toNat = true then 1 else 0)) := (blk_cell (blk_below HS.out.hi hs1) _).trans (inV_at PI.out.2.2); rw [HO.out] at kc; go_simp; with_reducible rfl); rotate_left; (· simp only [Act.put, List.setIfInBounds_toArray, List.set_cons_zero, List.set_cons_succ, i64_w, i32_w]; rfl)
                  refine pY 7 (some 29) (ar 30 8) HT_ (h := ?_)
                  refine pY 8 (some 30) (ar 30 9) HT_ (h := ?_)
                  refine pY 9 (some 31) (ar 30 10) HT_ (h := ?_)
                  refine take_ (i := 10) (N := (some 32)) (v := ?_) (a' := ?_) (ar 30 11) rfl rfl (take_ofW HT_.out HW_.out (by kernel_rfl)) (fun _ _ _ h => h) (Or.inl ⟨by rfl, ?_⟩) hHeld ?_ ?_; rotate_left; (· rintro w1 hs1; have kc : w1.cell? ⟨g4, 2, none⟩ = some (.bool (rd_T39 l i).f2) := (blk_cell (blk_below B4.out hs1) _).trans rfl; rw [HRD.out] at kc; go_simp; with_reducible rfl); rotate_left; (· simp only [Act.put, List.setIfInBounds_toArray, List.set_cons_zero, List.set_cons_succ, i64_w, i32_w]; rfl)
                  refine pY 11 (some 33) (ar 30 12) HT_ (h := ?_)
                  refine take_ (i := 12) (N := (some 34)) (v := .agg #[.int .i64 (rd_T39 l i).f0, .int .i64 (rd_T39 l i).f1, .bool (rd_T39 l i).f2, .string (rd_T39 l i).f3, .int .i64 (rd_T39 l i).f4.f0, .string (rd_T39 l i).f4.f1, .string (rd_T39 l i).f4.f2, .int .i64 (rd_T39 l i).f4.f3, .int .i64 (rd_T39 l i).f5, .int .i64 (rd_T39 l i).f6, .int .i64 (rd_T39 l i).f7.f0, .int .i64 (rd_T39 l i).f7.f1, .string (rd_T39 l i).f8.f0, .string (rd_T39 l i).f8.f1, .int .i64 (rd_T39 l i).f8.f2, .bool (rd_T39 l i).f9]) (a' := ?_) (ar 30 13) rfl rfl (take_ofW HT_.out HW_.out (by kernel_rfl)) (fun _ _ _ h => h) (Or.inl ⟨by rfl, fun w1 hs1 => exec_load_p 39 (.tmp 4) rfl ⟨g4, 0, none⟩ rfl [.int .i64 (rd_T39 l i).f0, .int .i64 (rd_T39 l i).f1, .bool (rd_T39 l i).f2, .string (rd_T39 l i).f3, .int .i64 (rd_T39 l i).f4.f0, .string (rd_T39 l i).f4.f1, .string (rd_T39 l i).f4.f2, .int .i64 (rd_T39 l i).f4.f3, .int .i64 (rd_T39 l i).f5, .int .i64 (rd_T39 l i).f6, .int .i64 (rd_T39 l i).f7.f0, .int .i64 (rd_T39 l i).f7.f1, .string (rd_T39 l i).f8.f0, .string (rd_T39 l i).f8.f1, .int .i64 (rd_T39 l i).f8.f2, .bool (rd_T39 l i).f9] _ (blk_cells (blk_below B4.out hs1)) Try.underlying39 rfl (by kernel_rfl)⟩) hHeld ?_ ?_; rotate_left; (· simp only [Act.put, List.setIfInBounds_toArray, List.set_cons_zero, List.set_cons_succ, i64_w, i32_w]; rfl)
                  refine one_ (i := 13) (N := (some 35)) (ar 30 14) rfl rfl (one_of HT_.out (by kernel_rfl)) (by decide) (fun K hK => ?_); refine goes_ Try.func42 (by kernel_rfl) rfl #[.agg #[.int .i64 (rd_T39 l i).f0, .int .i64 (rd_T39 l i).f1, .bool (rd_T39 l i).f2, .string (rd_T39 l i).f3, .int .i64 (rd_T39 l i).f4.f0, .string (rd_T39 l i).f4.f1, .string (rd_T39 l i).f4.f2, .int .i64 (rd_T39 l i).f4.f3, .int .i64 (rd_T39 l i).f5, .int .i64 (rd_T39 l i).f6, .int .i64 (rd_T39 l i).f7.f0, .int .i64 (rd_T39 l i).f7.f1, .string (rd_T39 l i).f8.f0, .string (rd_T39 l i).f8.f1, .int .i64 (rd_T39 l i).f8.f2, .bool (rd_T39 l i).f9]] (by rfl) rfl rfl (by (try simp only [List.map_toArray, List.map_cons, List.map_nil]); first | done | rfl) ?_; (with_reducible refine (HA.out _).mono ?_); rintro e w12 ⟨rfl, hb⟩; refine ⟨_, rfl, ?_⟩; replace HB := Lib.hid (below_step HB.out hb); clear hb; refine hK.out _ _ HB.out (fun hHeld => ?_); clear hK K; refine norm_ (a' := ?_) ?_ ?_; rotate_left; (· show Act.put _ (some 35) _ = _; simp only [Act.put, List.setIfInBounds_toArray, List.set_cons_zero, List.set_cons_succ, i64_w, i32_w]; rfl)
                  refine pY 14 (some 36) (ar 30 15) HT_ (h := ?_)
                  refine pY 15 (some 37) (ar 30 16) HT_ (h := ?_)
                  refine pY 16 (some 38) (ar 30 17) HT_ (h := ?_)
                  refine pY 17 (some 39) (ar 30 18) HT_ (h := ?_)
                  refine pY 18 (some 40) (ar 30 19) HT_ (h := ?_)
                  refine pY 19 (some 41) (ar 30 20) HT_ (h := ?_)
                  refine pY 20 (some 42) (ar 30 21) HT_ (h := ?_)
                  refine take_ (i := 21) (N := (some 43)) (v := ?_) (a' := ?_) (ar 30 22) rfl rfl (take_ofW HT_.out HW_.out (by kernel_rfl)) (fun _ _ _ h => h) (Or.inl ⟨by rfl, ?_⟩) hHeld ?_ ?_; rotate_left; (· rintro w1 hs1; have kc : w1.cell? ⟨gp, 0, none⟩ = some (.slice (some ad) l.length c) := (blk_cell (blk_below HS.out.hp hs1) _).trans rfl; go_simp; with_reducible rfl); rotate_left; (· simp only [Act.put, List.setIfInBounds_toArray, List.set_cons_zero, List.set_cons_succ, i64_w, i32_w]; rfl)
                  refine pY 22 (some 44) (ar 30 23) HT_ (h := ?_)
                  refine pY 23 (some 45) (ar 30 24) HT_ (h := ?_)
                  refine pY 24 (some 46) (ar 30 25) HT_ (h := ?_)
                  refine take_ (i := 25) (N := (some 47)) (v := ?_) (a' := ?_) (ar 30 26) rfl rfl (take_ofW HT_.out HW_.out (by kernel_rfl)) (fun _ _ _ h => h) (Or.inl ⟨by rfl, ?_⟩) hHeld ?_ ?_; rotate_left; (· rintro w1 hs1; have kc : w1.cell? ⟨gp, 1, none⟩ = some (.slice (some ⟨gi, 0, none⟩) l.length l.length) := (blk_cell (blk_below HS.out.hp hs1) _).trans rfl; go_simp; with_reducible rfl); rotate_left; (· simp only [Act.put, List.setIfInBounds_toArray, List.set_cons_zero, List.set_cons_succ, i64_w, i32_w]; rfl)
                  refine pY 26 (some 48) (ar 30 27) HT_ (h := ?_)
                  refine one_ (i := 27) (N := (some 49)) (ar 30 28) rfl rfl (one_of HT_.out (by kernel_rfl)) (by decide) (fun K hK => ?_); refine goes_ Try.func59 (by kernel_rfl) rfl #[.slice (some ad) l.length c, .slice (some ⟨gi, 0, none⟩) l.length l.length, .int .i64 i] (by rfl) rfl rfl (by (try simp only [List.map_toArray, List.map_cons, List.map_nil]); first | done | rfl) ?_; (with_reducible refine (HRY.out _ HB.out).mono ?_); rintro e w12 ⟨rfl, hb⟩; refine ⟨_, rfl, ?_⟩; replace HB := Lib.hid (below_step HB.out hb); clear hb; refine hK.out _ _ HB.out (fun hHeld => ?_); clear hK K; refine norm_ (a' := ?_) ?_ ?_; rotate_left; (· show Act.put _ (some 49) _ = _; simp only [Act.put, List.setIfInBounds_toArray, List.set_cons_zero, List.set_cons_succ, i64_w, i32_w]; rfl)
                  refine pY 28 (some 50) (ar 30 29) HT_ (h := ?_)
                  refine pY 29 (some 51) (ar 30 30) HT_ (h := ?_)
                  refine done_ (done_of HT_.out (by kernel_rfl)) ?_
                  try go_wp2
                  go_meet
                  case rel => exact ⟨_, rfl, HX, HB⟩
              | true =>
                rw [hy] at HRY
                have HX := Lib.hid (show nxtB l o i.toNat = !false by unfold nxtB; rw [ho, hy, show (cl l i.toNat).f2 = true from hrd, show ansB (cl l i.toNat) = true from ha]; rfl)
                clear ho hy hrd
                as_aux_lemma =>
                  refine start_ (n := 30) (S := fun w1 => Below v4.heap.size v4 w1) (ds := []) (ar 30 0) (by kernel_rfl) rfl rfl (below_drew1 (Below.refl _ _)) (fun hHeld => ?_); refine with_tabW run.tab6 run.bits6 (fun HT_ HW_ => ?_)
                  have HB := Lib.hid (below_drew1 (Below.refl v4.heap.size v4))
                  generalize v4.drew = wz at HB hHeld ⊢
                  refine pY 0 (some 22) (ar 30 1) HT_ (h := ?_)
                  refine pY 1 (some 23) (ar 30 2) HT_ (h := ?_)
                  refine pY 2 (some 24) (ar 30 3) HT_ (h := ?_)
                  refine take_ (i := 3) (N := (some 25)) (v := ?_) (a' := ?_) (ar 30 4) rfl rfl (take_ofW HT_.out HW_.out (by kernel_rfl)) (fun _ _ _ h => h) (Or.inl ⟨by rfl, ?_⟩) hHeld ?_ ?_; rotate_left; (· rintro w1 hs1; have kc : w1.cell? ⟨gp, 1, none⟩ = some (.slice (some ⟨gi, 0, none⟩) l.length l.length) := (blk_cell (blk_below HS.out.hp hs1) _).trans rfl; go_simp; with_reducible rfl); rotate_left; (· simp only [Act.put, List.setIfInBounds_toArray, List.set_cons_zero, List.set_cons_succ, i64_w, i32_w]; rfl)
                  refine pY 4 (some 26) (ar 30 5) HT_ (h := ?_)
                  refine pY 5 (some 27) (ar 30 6) HT_ (h := ?_)
                  refine take_ (i := 6) (N := (some 28)) (v := ?_) (a' := ?_) (ar 30 7) rfl rfl (take_ofW HT_.out HW_.out (by kernel_rfl)) (fun _ _ _ h => h) (Or.inl ⟨by rfl, ?_⟩) hHeld ?_ ?_; rotate_left; (· rintro w1 hs1; have kc : w1.cell? ⟨gi, i.toNat, none⟩ = some (.int .i64 (if o.contains i.toNat = true then 1 else 0)) := (blk_cell (blk_below HS.out.hi hs1) _).trans (inV_at PI.out.2.2); rw [HO.out] at kc; go_simp; with_reducible rfl); rotate_left; (· simp only [Act.put, List.setIfInBounds_toArray, List.set_cons_zero, List.set_cons_succ, i64_w, i32_w]; rfl)
                  refine pY 7 (some 29) (ar 30 8) HT_ (h := ?_)
                  refine pY 8 (some 30) (ar 30 9) HT_ (h := ?_)
                  refine pY 9 (some 31) (ar 30 10) HT_ (h := ?_)
                  refine take_ (i := 10) (N := (some 32)) (v := ?_) (a' := ?_) (ar 30 11) rfl rfl (take_ofW HT_.out HW_.out (by kernel_rfl)) (fun _ _ _ h => h) (Or.inl ⟨by rfl, ?_⟩) hHeld ?_ ?_; rotate_left; (· rintro w1 hs1; have kc : w1.cell? ⟨g4, 2, none⟩ = some (.bool (rd_T39 l i).f2) := (blk_cell (blk_below B4.out hs1) _).trans rfl; rw [HRD.out] at kc; go_simp; with_reducible rfl); rotate_left; (· simp only [Act.put, List.setIfInBounds_toArray, List.set_cons_zero, List.set_cons_succ, i64_w, i32_w]; rfl)
                  refine pY 11 (some 33) (ar 30 12) HT_ (h := ?_)
                  refine take_ (i := 12) (N := (some 34)) (v := .agg #[.int .i64 (rd_T39 l i).f0, .int .i64 (rd_T39 l i).f1, .bool (rd_T39 l i).f2, .string (rd_T39 l i).f3, .int .i64 (rd_T39 l i).f4.f0, .string (rd_T39 l i).f4.f1, .string (rd_T39 l i).f4.f2, .int .i64 (rd_T39 l i).f4.f3, .int .i64 (rd_T39 l i).f5, .int .i64 (rd_T39 l i).f6, .int .i64 (rd_T39 l i).f7.f0, .int .i64 (rd_T39 l i).f7.f1, .string (rd_T39 l i).f8.f0, .string (rd_T39 l i).f8.f1, .int .i64 (rd_T39 l i).f8.f2, .bool (rd_T39 l i).f9]) (a' := ?_) (ar 30 13) rfl rfl (take_ofW HT_.out HW_.out (by kernel_rfl)) (fun _ _ _ h => h) (Or.inl ⟨by rfl, fun w1 hs1 => exec_load_p 39 (.tmp 4) rfl ⟨g4, 0, none⟩ rfl [.int .i64 (rd_T39 l i).f0, .int .i64 (rd_T39 l i).f1, .bool (rd_T39 l i).f2, .string (rd_T39 l i).f3, .int .i64 (rd_T39 l i).f4.f0, .string (rd_T39 l i).f4.f1, .string (rd_T39 l i).f4.f2, .int .i64 (rd_T39 l i).f4.f3, .int .i64 (rd_T39 l i).f5, .int .i64 (rd_T39 l i).f6, .int .i64 (rd_T39 l i).f7.f0, .int .i64 (rd_T39 l i).f7.f1, .string (rd_T39 l i).f8.f0, .string (rd_T39 l i).f8.f1, .int .i64 (rd_T39 l i).f8.f2, .bool (rd_T39 l i).f9] _ (blk_cells (blk_below B4.out hs1)) Try.underlying39 rfl (by kernel_rfl)⟩) hHeld ?_ ?_; rotate_left; (· simp only [Act.put, List.setIfInBounds_toArray, List.set_cons_zero, List.set_cons_succ, i64_w, i32_w]; rfl)
                  refine one_ (i := 13) (N := (some 35)) (ar 30 14) rfl rfl (one_of HT_.out (by kernel_rfl)) (by decide) (fun K hK => ?_); refine goes_ Try.func42 (by kernel_rfl) rfl #[.agg #[.int .i64 (rd_T39 l i).f0, .int .i64 (rd_T39 l i).f1, .bool (rd_T39 l i).f2, .string (rd_T39 l i).f3, .int .i64 (rd_T39 l i).f4.f0, .string (rd_T39 l i).f4.f1, .string (rd_T39 l i).f4.f2, .int .i64 (rd_T39 l i).f4.f3, .int .i64 (rd_T39 l i).f5, .int .i64 (rd_T39 l i).f6, .int .i64 (rd_T39 l i).f7.f0, .int .i64 (rd_T39 l i).f7.f1, .string (rd_T39 l i).f8.f0, .string (rd_T39 l i).f8.f1, .int .i64 (rd_T39 l i).f8.f2, .bool (rd_T39 l i).f9]] (by rfl) rfl rfl (by (try simp only [List.map_toArray, List.map_cons, List.map_nil]); first | done | rfl) ?_; (with_reducible refine (HA.out _).mono ?_); rintro e w12 ⟨rfl, hb⟩; refine ⟨_, rfl, ?_⟩; replace HB := Lib.hid (below_step HB.out hb); clear hb; refine hK.out _ _ HB.out (fun hHeld => ?_); clear hK K; refine norm_ (a' := ?_) ?_ ?_; rotate_left; (· show Act.put _ (some 35) _ = _; simp only [Act.put, List.setIfInBounds_toArray, List.set_cons_zero, List.set_cons_succ, i64_w, i32_w]; rfl)
                  refine pY 14 (some 36) (ar 30 15) HT_ (h := ?_)
                  refine pY 15 (some 37) (ar 30 16) HT_ (h := ?_)
                  refine pY 16 (some 38) (ar 30 17) HT_ (h := ?_)
                  refine pY 17 (some 39) (ar 30 18) HT_ (h := ?_)
                  refine pY 18 (some 40) (ar 30 19) HT_ (h := ?_)
                  refine pY 19 (some 41) (ar 30 20) HT_ (h := ?_)
                  refine pY 20 (some 42) (ar 30 21) HT_ (h := ?_)
                  refine take_ (i := 21) (N := (some 43)) (v := ?_) (a' := ?_) (ar 30 22) rfl rfl (take_ofW HT_.out HW_.out (by kernel_rfl)) (fun _ _ _ h => h) (Or.inl ⟨by rfl, ?_⟩) hHeld ?_ ?_; rotate_left; (· rintro w1 hs1; have kc : w1.cell? ⟨gp, 0, none⟩ = some (.slice (some ad) l.length c) := (blk_cell (blk_below HS.out.hp hs1) _).trans rfl; go_simp; with_reducible rfl); rotate_left; (· simp only [Act.put, List.setIfInBounds_toArray, List.set_cons_zero, List.set_cons_succ, i64_w, i32_w]; rfl)
                  refine pY 22 (some 44) (ar 30 23) HT_ (h := ?_)
                  refine pY 23 (some 45) (ar 30 24) HT_ (h := ?_)
                  refine pY 24 (some 46) (ar 30 25) HT_ (h := ?_)
                  refine take_ (i := 25) (N := (some 47)) (v := ?_) (a' := ?_) (ar 30 26) rfl rfl (take_ofW HT_.out HW_.out (by kernel_rfl)) (fun _ _ _ h => h) (Or.inl ⟨by rfl, ?_⟩) hHeld ?_ ?_; rotate_left; (· rintro w1 hs1; have kc : w1.cell? ⟨gp, 1, none⟩ = some (.slice (some ⟨gi, 0, none⟩) l.length l.length) := (blk_cell (blk_below HS.out.hp hs1) _).trans rfl; go_simp; with_reducible rfl); rotate_left; (· simp only [Act.put, List.setIfInBounds_toArray, List.set_cons_zero, List.set_cons_succ, i64_w, i32_w]; rfl)
                  refine pY 26 (some 48) (ar 30 27) HT_ (h := ?_)
                  refine one_ (i := 27) (N := (some 49)) (ar 30 28) rfl rfl (one_of HT_.out (by kernel_rfl)) (by decide) (fun K hK => ?_); refine goes_ Try.func59 (by kernel_rfl) rfl #[.slice (some ad) l.length c, .slice (some ⟨gi, 0, none⟩) l.length l.length, .int .i64 i] (by rfl) rfl rfl (by (try simp only [List.map_toArray, List.map_cons, List.map_nil]); first | done | rfl) ?_; (with_reducible refine (HRY.out _ HB.out).mono ?_); rintro e w12 ⟨rfl, hb⟩; refine ⟨_, rfl, ?_⟩; replace HB := Lib.hid (below_step HB.out hb); clear hb; refine hK.out _ _ HB.out (fun hHeld => ?_); clear hK K; refine norm_ (a' := ?_) ?_ ?_; rotate_left; (· show Act.put _ (some 49) _ = _; simp only [Act.put, List.setIfInBounds_toArray, List.set_cons_zero, List.set_cons_succ, i64_w, i32_w]; rfl)
                  refine pY 28 (some 50) (ar 30 29) HT_ (h := ?_)
                  refine pY 29 (some 51) (ar 30 30) HT_ (h := ?_)
                  refine done_ (done_of HT_.out (by kernel_rfl)) ?_
                  try go_wp2
                  go_meet
                  case rel => exact ⟨_, rfl, HX, HB⟩
      case rest =>
        obtain ⟨b, rfl, HX, HB⟩ := hcut
        replace HKW := Lib.hid (And.intro (HKW.out.1.below HB.out) HKW.out.2)
        replace HS := Lib.hid (HS.out.below HB.out)
        replace B4 := Lib.hid (blk_below B4.out HB.out)
        replace L4 := Lib.hid (Nat.lt_of_lt_of_le (blk_lt B4.out) (Nat.le_refl _))
        clear HB
        cases b with
        | true =>
          have HJ2 : RowKit.Hid (∀ j : Nat, (j : Int) < i + 1 → tryF l f o m j = none) := Lib.hid (fun j hj => by
            by_cases e : j = i.toNat
            · rw [e]; exact try_no HX.out
            · exact HJ.out j (by have := PI.out; omega))
          go_wp2
          go_roundw
          case rel => exact ⟨i + 1, by first | rfl | go_num, ⟨by have := PI.out; omega, by have := PI.out; omega⟩, HJ2, Lib.hid ⟨v', n', by rw [show (i + 1).toNat = i.toNat + 1 by have := PI.out; omega, Nat.add_mul]; have := HN1.out; omega, HS.out, HKW.out.1, HKW.out.2⟩⟩
          case measure => have := PI.out; simp [intOf]; omega
        | false =>
          have HCI := Lib.hid (show o.contains i.toNat = false by
            have h := (nxtB_iff.mp HX.out).1
            cases hc : o.contains i.toNat with
            | false => rfl
            | true => exact absurd (List.contains_iff_mem.mp hc) h)
          obtain ⟨c0, HC0⟩ : ∃ q, RowKit.Hid (m (rd_T39 l i).f3.toList = q) := ⟨_, Lib.hid rfl⟩
          obtain ⟨κ, HKP⟩ : ∃ q, RowKit.Hid ((if (hapF (m (rd_T39 l i).f3.toList) (rd_T39 l i)).2 = true then updK m (rd_T39 l i).f3.toList (hapF (m (rd_T39 l i).f3.toList) (rd_T39 l i)).1 else m) = q) := ⟨_, Lib.hid rfl⟩
          cases hok : (hapF c0 (rd_T39 l i)).2 with
          | false =>
            have HOK := Lib.hid (show (hapF (m (kyF l i.toNat)) (cl l i.toNat)).2 = false from (by rw [show m (kyF l i.toNat) = c0 from HC0.out]; exact hok))
            have HST7 := Lib.hid (fun W (hM : MapK W bm n' m) => (by
              have h := step_any W bm n' m (rd_T39 l i) HKS.out hM (by have h1 := HN1.out; have h2 := HQ.out; have h3 := HT.out; unfold maxLen; omega)
              rw [HC0.out, hok] at h
              exact h : Calls Try.prog 60 #[.map (some bm), .agg #[.int .i64 (rd_T39 l i).f0, .int .i64 (rd_T39 l i).f1, .bool (rd_T39 l i).f2, .string (rd_T39 l i).f3, .int .i64 (rd_T39 l i).f4.f0, .string (rd_T39 l i).f4.f1, .string (rd_T39 l i).f4.f2, .int .i64 (rd_T39 l i).f4.f3, .int .i64 (rd_T39 l i).f5, .int .i64 (rd_T39 l i).f6, .int .i64 (rd_T39 l i).f7.f0, .int .i64 (rd_T39 l i).f7.f1, .string (rd_T39 l i).f8.f0, .string (rd_T39 l i).f8.f1, .int .i64 (rd_T39 l i).f8.f2, .bool (rd_T39 l i).f9]] W fun e w' => e = .returned (.tuple #[.agg #[.bool c0.f0, .string c0.f1, .int .i64 c0.f2, .int .i64 c0.f3, .int .i64 c0.f4], .bool false]) ∧ StepTo W bm n' m (rd_T39 l i) w'))
            clear hok
            go_upto_region 7 with ((fail))
            go_cut [5, 6] (fun v5 v6 wd => ∃ g5 : Nat, v5 = .pointer (some ⟨g5, 0, none⟩) ∧ v6 = .bool false ∧ RowKit.Hid (Keep (· = bm) wc wd ∧ (∃ k, n' ≤ k ∧ k ≤ n' + 1 ∧ MapK wd bm k κ) ∧ wd.heap[g5]? = some (.cells #[.bool c0.f0, .string c0.f1, .int .i64 c0.f2, .int .i64 c0.f3, .int .i64 c0.f4] 130 (0, 0)) ∧ wc.heap.size ≤ g5))
            case first =>
              refine start_ (n := 12) (S := fun w1 => Keep (· = bm) wc w1) (ds := []) (ar 12 0) (by kernel_rfl) rfl rfl (Keep.drew (Keep.refl _ _)) (fun hHeld => ?_); refine with_tabW run.tab7 run.bits7 (fun HT_ HW_ => ?_)
              have HB := Lib.hid (Keep.drew (Keep.refl (· = bm) wc))
              have MP := Lib.hid (HS.out.hm.kept (grown_of (below_drew1 (Below.refl wc.heap.size wc))) (by simp))
              generalize wc.drew = wz at HB MP hHeld ⊢
              refine pY 0 (some 53) (ar 12 1) HT_ (h := ?_)
              refine pY 1 (some 54) (ar 12 2) HT_ (h := ?_)
              refine pY 2 (some 55) (ar 12 3) HT_ (h := ?_)
              refine take_ (i := 3) (N := (some 56)) (v := ?_) (a' := ?_) (ar 12 4) rfl rfl (take_ofW HT_.out HW_.out (by kernel_rfl)) (fun _ _ _ h => h) (Or.inl ⟨by rfl, ?_⟩) hHeld ?_ ?_; rotate_left; (· rintro w1 hs1; have kc : w1.cell? ⟨gp, 2, none⟩ = some (.map (some bm)) := (blk_cell (hs1.blk HS.out.hp HS.out.npm) _).trans rfl; go_simp; with_reducible rfl); rotate_left; (· simp only [Act.put, List.setIfInBounds_toArray, List.set_cons_zero, List.set_cons_succ, i64_w, i32_w]; rfl)
              refine take_ (i := 4) (N := (some 57)) (v := .agg #[.int .i64 (rd_T39 l i).f0, .int .i64 (rd_T39 l i).f1, .bool (rd_T39 l i).f2, .string (rd_T39 l i).f3, .int .i64 (rd_T39 l i).f4.f0, .string (rd_T39 l i).f4.f1, .string (rd_T39 l i).f4.f2, .int .i64 (rd_T39 l i).f4.f3, .int .i64 (rd_T39 l i).f5, .int .i64 (rd_T39 l i).f6, .int .i64 (rd_T39 l i).f7.f0, .int .i64 (rd_T39 l i).f7.f1, .string (rd_T39 l i).f8.f0, .string (rd_T39 l i).f8.f1, .int .i64 (rd_T39 l i).f8.f2, .bool (rd_T39 l i).f9]) (a' := ?_) (ar 12 5) rfl rfl (take_ofW HT_.out HW_.out (by kernel_rfl)) (fun _ _ _ h => h) (Or.inl ⟨by rfl, fun w1 hs1 => exec_load_p 39 (.tmp 4) rfl ⟨g4, 0, none⟩ rfl [.int .i64 (rd_T39 l i).f0, .int .i64 (rd_T39 l i).f1, .bool (rd_T39 l i).f2, .string (rd_T39 l i).f3, .int .i64 (rd_T39 l i).f4.f0, .string (rd_T39 l i).f4.f1, .string (rd_T39 l i).f4.f2, .int .i64 (rd_T39 l i).f4.f3, .int .i64 (rd_T39 l i).f5, .int .i64 (rd_T39 l i).f6, .int .i64 (rd_T39 l i).f7.f0, .int .i64 (rd_T39 l i).f7.f1, .string (rd_T39 l i).f8.f0, .string (rd_T39 l i).f8.f1, .int .i64 (rd_T39 l i).f8.f2, .bool (rd_T39 l i).f9] _ (blk_cells (hs1.blk B4.out (fun e => HF4.out (Or.inr (Or.inr (Or.inl e)))))) Try.underlying39 rfl (by kernel_rfl)⟩) hHeld ?_ ?_; rotate_left; (· simp only [Act.put, List.setIfInBounds_toArray, List.set_cons_zero, List.set_cons_succ, i64_w, i32_w]; rfl)
              refine two_ (i := 5) (j := 9) (Ni := some 58) (Nj := some 5) (ar 12 6) #[true, true, true, true, true, false, false, false, false, true, false, false] rfl rfl rfl rfl (by kernel_rfl) (by decide) (by decide) (fun K hK => ?_) (fun K hK => ?_)
              · refine goes_ Try.func60 (by kernel_rfl) rfl #[.map (some bm), .agg #[.int .i64 (rd_T39 l i).f0, .int .i64 (rd_T39 l i).f1, .bool (rd_T39 l i).f2, .string (rd_T39 l i).f3, .int .i64 (rd_T39 l i).f4.f0, .string (rd_T39 l i).f4.f1, .string (rd_T39 l i).f4.f2, .int .i64 (rd_T39 l i).f4.f3, .int .i64 (rd_T39 l i).f5, .int .i64 (rd_T39 l i).f6, .int .i64 (rd_T39 l i).f7.f0, .int .i64 (rd_T39 l i).f7.f1, .string (rd_T39 l i).f8.f0, .string (rd_T39 l i).f8.f1, .int .i64 (rd_T39 l i).f8.f2, .bool (rd_T39 l i).f9]] (by rfl) rfl rfl (by (try simp only [List.map_toArray, List.map_cons, List.map_nil]); first | done | rfl) ?_; (with_reducible refine (HST7.out _ MP.out).mono ?_); rintro e w12 ⟨rfl, hst_⟩; refine ⟨_, rfl, ?_⟩; unfold StepTo at hst_; obtain ⟨hk_, k5, k51, k52, hm5⟩ := hst_; rw [HKP.out] at hm5; have HB12 := Lib.hid (HB.out.trans hk_); have M12 := Lib.hid hm5; refine hK.out _ _ HB12.out (fun hHeld => ?_); clear hK K hk_ hm5; refine norm_ (a' := ?_) ?_ ?_; rotate_left; (· show Act.put _ (some 58) _ = _; simp only [Act.put, List.setIfInBounds_toArray, List.set_cons_zero, List.set_cons_succ, i64_w, i32_w]; rfl)
                refine pY 6 (some 52) (ar 12 7) HT_ (h := ?_)
                refine pY 7 (some 59) (ar 12 8) HT_ (h := ?_)
                refine pY 8 (some 60) (ar 12 9) HT_ (h := ?_)
                refine one_ (i := 9) (N := (some 5)) (ar 12 10) rfl rfl (one_of HT_.out (by kernel_rfl)) (by decide) (fun K hK => ?_); refine box_step rfl (N := 5) rfl (cs := #[.bool false, .string ⟨#[]⟩, .int .i64 0, .int .i64 0, .int .i64 0]) (t := 130) (by first | (go_simp; done) | (go_simp; rfl)) ?_; intro g5 e5 w5 h5 b5; have B5 := Lib.hid h5; have L5 := Lib.hid (Nat.le_trans HB12.out.size (Nat.le_of_eq e5.symm)); have HB5 := Lib.hid (HB12.out.below b5); have M5 := Lib.hid (M12.out.kept (grown_of b5) (by simp)); clear h5 b5 e5; refine hK.out _ _ HB5.out (fun hHeld => ?_); clear hK K; refine norm_ (a' := ?_) ?_ ?_; rotate_left; (· show Act.put _ (some 5) _ = _; simp only [Act.put, List.setIfInBounds_toArray, List.set_cons_zero, List.set_cons_succ, i64_w, i32_w]; rfl)
                refine one_ (i := 10) (N := none) (ar 12 11) rfl rfl (one_of HT_.out (by kernel_rfl)) (by decide) (fun K hK => ?_); refine store_row_K 130 (.tmp 5) (.tmp 59) rfl g5 #[.bool c0.f0, .string c0.f1, .int .i64 c0.f2, .int .i64 c0.f3, .int .i64 c0.f4] rfl rfl 130 _ B5.out (by kernel_rfl) rfl (by simp [Value.oneCell']) ?_; intro wq h_ q_; have HBq := Lib.hid (HB5.out.grown q_ (fun k_ e_ l_ => by injection e_ with e_; have := L5.out; omega)); have Mq := Lib.hid (M5.out.kept q_ (by intro e_; injection e_ with e_; have h1 := HS.out.hm.lt; have := L5.out; omega)); have Bq := Lib.hid h_; clear h_ q_; refine hK.out _ _ HBq.out (fun hHeld => ?_); clear hK K
                refine pY 11 (some 6) (ar 12 12) HT_ (h := ?_)
                refine done_ (done_of HT_.out (by kernel_rfl)) ?_
                try go_wp2
                go_meet
                case rel => exact ⟨g5, rfl, rfl, Lib.hid ⟨HBq.out, ⟨k5, k51, k52, Mq.out⟩, Bq.out, L5.out⟩⟩
              · refine box_step rfl (N := 5) rfl (cs := #[.bool false, .string ⟨#[]⟩, .int .i64 0, .int .i64 0, .int .i64 0]) (t := 130) (by first | (go_simp; done) | (go_simp; rfl)) ?_; intro g5 e5 w5 h5 b5; have B50 := Lib.hid h5; have L5 := Lib.hid (Nat.le_trans HB.out.size (Nat.le_of_eq e5.symm)); have N5 := Lib.hid (show g5 ≠ bm by have h1 := MP.out.lt; omega); replace HB := Lib.hid (HB.out.below b5); replace MP := Lib.hid (MP.out.kept (grown_of b5) (by simp)); clear h5 b5 e5; refine hK.out _ _ HB.out (fun hHeld => ?_); clear hK K; refine norm_ (a' := ?_) ?_ ?_; rotate_left; (· show Act.put _ (some 5) _ = _; simp only [Act.put, List.setIfInBounds_toArray, List.set_cons_zero, List.set_cons_succ, i64_w, i32_w]; rfl)
                refine one_ (i := 5) (N := (some 58)) #[true, true, true, true, true, true, false, false, false, true, false, false] rfl rfl (one_of HT_.out (by kernel_rfl)) (by decide) (fun K hK => ?_); refine goes_ Try.func60 (by kernel_rfl) rfl #[.map (some bm), .agg #[.int .i64 (rd_T39 l i).f0, .int .i64 (rd_T39 l i).f1, .bool (rd_T39 l i).f2, .string (rd_T39 l i).f3, .int .i64 (rd_T39 l i).f4.f0, .string (rd_T39 l i).f4.f1, .string (rd_T39 l i).f4.f2, .int .i64 (rd_T39 l i).f4.f3, .int .i64 (rd_T39 l i).f5, .int .i64 (rd_T39 l i).f6, .int .i64 (rd_T39 l i).f7.f0, .int .i64 (rd_T39 l i).f7.f1, .string (rd_T39 l i).f8.f0, .string (rd_T39 l i).f8.f1, .int .i64 (rd_T39 l i).f8.f2, .bool (rd_T39 l i).f9]] (by rfl) rfl rfl (by (try simp only [List.map_toArray, List.map_cons, List.map_nil]); first | done | rfl) ?_; (with_reducible refine (HST7.out _ MP.out).mono ?_); rintro e w12 ⟨rfl, hst_⟩; refine ⟨_, rfl, ?_⟩; unfold StepTo at hst_; obtain ⟨hk_, k5, k51, k52, hm5⟩ := hst_; rw [HKP.out] at hm5; have HB5 := Lib.hid (HB.out.trans hk_); have B5 := Lib.hid (hk_.blk B50.out N5.out); have M5 := Lib.hid hm5; refine hK.out _ _ HB5.out (fun hHeld => ?_); clear hK K hk_ hm5; refine norm_ (a' := ?_) ?_ ?_; rotate_left; (· show Act.put _ (some 58) _ = _; simp only [Act.put, List.setIfInBounds_toArray, List.set_cons_zero, List.set_cons_succ, i64_w, i32_w]; rfl)
                refine pY 6 (some 52) #[true, true, true, true, true, true, true, false, false, true, false, false] HT_ (h := ?_)
                refine pY 7 (some 59) #[true, true, true, true, true, true, true, true, false, true, false, false] HT_ (h := ?_)
                refine pY 8 (some 60) (ar 12 10) HT_ (h := ?_)
                refine one_ (i := 10) (N := none) (ar 12 11) rfl rfl (one_of HT_.out (by kernel_rfl)) (by decide) (fun K hK => ?_); refine store_row_K 130 (.tmp 5) (.tmp 59) rfl g5 #[.bool c0.f0, .string c0.f1, .int .i64 c0.f2, .int .i64 c0.f3, .int .i64 c0.f4] rfl rfl 130 _ B5.out (by kernel_rfl) rfl (by simp [Value.oneCell']) ?_; intro wq h_ q_; have HBq := Lib.hid (HB5.out.grown q_ (fun k_ e_ l_ => by injection e_ with e_; have := L5.out; omega)); have Mq := Lib.hid (M5.out.kept q_ (by intro e_; injection e_ with e_; have h1 := HS.out.hm.lt; have := L5.out; omega)); have Bq := Lib.hid h_; clear h_ q_; refine hK.out _ _ HBq.out (fun hHeld => ?_); clear hK K
                refine pY 11 (some 6) (ar 12 12) HT_ (h := ?_)
                refine done_ (done_of HT_.out (by kernel_rfl)) ?_
                try go_wp2
                go_meet
                case rel => exact ⟨g5, rfl, rfl, Lib.hid ⟨HBq.out, ⟨k5, k51, k52, Mq.out⟩, Bq.out, L5.out⟩⟩
            case rest =>
              obtain ⟨g5, rfl, rfl, HF⟩ := hcut
              obtain ⟨hk7, ⟨k7, k71, k72, hm7⟩, hb5, hl5⟩ := HF.out
              have HF5 := Lib.hid (show ¬ Xs gp gi bm v' g5 from fun hx => by have := (HS.out.lt hx).2; omega)
              have L5 := Lib.hid (show w.heap.size ≤ g5 by have := HKW.out.1.size; omega)
              replace B4 := Lib.hid (hk7.blk B4.out (fun e => HF4.out (Or.inr (Or.inr (Or.inl e)))))
              have B5 := Lib.hid hb5
              replace HKW := Lib.hid (And.intro (keep_map HKW.out.1 hk7) HKW.out.2)
              replace HS := Lib.hid (HS.out.map hk7 hm7)
              have HK7 := Lib.hid (And.intro k71 k72)
              clear HF hk7 hm7 hb5 hl5 k71 k72
              have HJ2 : RowKit.Hid (∀ j : Nat, (j : Int) < i + 1 → tryF l f o m j = none) := Lib.hid (fun j hj => by
                by_cases e : j = i.toNat
                · rw [e]; exact try_bad HOK.out
                · exact HJ.out j (by have := PI.out; omega))
              have HKM := Lib.hid (show κ = m from by rw [← HKP.out]; exact if_neg (fun h => by have h2 := HOK.out; rw [show kyF l i.toNat = (rd_T39 l i).f3.toList from rfl, show cl l i.toNat = rd_T39 l i from rfl, h] at h2; cases h2))
              go_wp2
              go_roundw
              case rel => exact ⟨i + 1, by first | rfl | go_num, ⟨by have := PI.out; omega, by have := PI.out; omega⟩, HJ2, Lib.hid ⟨v', k7, by rw [show (i + 1).toNat = i.toNat + 1 by have := PI.out; omega, Nat.add_mul]; have := HN1.out; have := HK7.out; omega, by rw [← HKM.out]; exact HS.out, HKW.out.1, HKW.out.2⟩⟩
              case measure => have := PI.out; simp [intOf]; omega
          | true =>
            have HOK := Lib.hid (show (hapF (m (kyF l i.toNat)) (cl l i.toNat)).2 = true from (by rw [show m (kyF l i.toNat) = c0 from HC0.out]; exact hok))
            have HST7 := Lib.hid (fun W (hM : MapK W bm n' m) => (by
              have h := step_any W bm n' m (rd_T39 l i) HKS.out hM (by have h1 := HN1.out; have h2 := HQ.out; have h3 := HT.out; unfold maxLen; omega)
              rw [HC0.out, hok] at h
              exact h : Calls Try.prog 60 #[.map (some bm), .agg #[.int .i64 (rd_T39 l i).f0, .int .i64 (rd_T39 l i).f1, .bool (rd_T39 l i).f2, .string (rd_T39 l i).f3, .int .i64 (rd_T39 l i).f4.f0, .string (rd_T39 l i).f4.f1, .string (rd_T39 l i).f4.f2, .int .i64 (rd_T39 l i).f4.f3, .int .i64 (rd_T39 l i).f5, .int .i64 (rd_T39 l i).f6, .int .i64 (rd_T39 l i).f7.f0, .int .i64 (rd_T39 l i).f7.f1, .string (rd_T39 l i).f8.f0, .string (rd_T39 l i).f8.f1, .int .i64 (rd_T39 l i).f8.f2, .bool (rd_T39 l i).f9]] W fun e w' => e = .returned (.tuple #[.agg #[.bool c0.f0, .string c0.f1, .int .i64 c0.f2, .int .i64 c0.f3, .int .i64 c0.f4], .bool true]) ∧ StepTo W bm n' m (rd_T39 l i) w'))
            clear hok
            go_upto_region 7 with ((fail))
            go_cut [5, 6] (fun v5 v6 wd => ∃ g5 : Nat, v5 = .pointer (some ⟨g5, 0, none⟩) ∧ v6 = .bool true ∧ RowKit.Hid (Keep (· = bm) wc wd ∧ (∃ k, n' ≤ k ∧ k ≤ n' + 1 ∧ MapK wd bm k κ) ∧ wd.heap[g5]? = some (.cells #[.bool c0.f0, .string c0.f1, .int .i64 c0.f2, .int .i64 c0.f3, .int .i64 c0.f4] 130 (0, 0)) ∧ wc.heap.size ≤ g5))
            case first =>
              refine start_ (n := 12) (S := fun w1 => Keep (· = bm) wc w1) (ds := []) (ar 12 0) (by kernel_rfl) rfl rfl (Keep.drew (Keep.refl _ _)) (fun hHeld => ?_); refine with_tabW run.tab7 run.bits7 (fun HT_ HW_ => ?_)
              have HB := Lib.hid (Keep.drew (Keep.refl (· = bm) wc))
              have MP := Lib.hid (HS.out.hm.kept (grown_of (below_drew1 (Below.refl wc.heap.size wc))) (by simp))
              generalize wc.drew = wz at HB MP hHeld ⊢
              refine pY 0 (some 53) (ar 12 1) HT_ (h := ?_)
              refine pY 1 (some 54) (ar 12 2) HT_ (h := ?_)
              refine pY 2 (some 55) (ar 12 3) HT_ (h := ?_)
              refine take_ (i := 3) (N := (some 56)) (v := ?_) (a' := ?_) (ar 12 4) rfl rfl (take_ofW HT_.out HW_.out (by kernel_rfl)) (fun _ _ _ h => h) (Or.inl ⟨by rfl, ?_⟩) hHeld ?_ ?_; rotate_left; (· rintro w1 hs1; have kc : w1.cell? ⟨gp, 2, none⟩ = some (.map (some bm)) := (blk_cell (hs1.blk HS.out.hp HS.out.npm) _).trans rfl; go_simp; with_reducible rfl); rotate_left; (· simp only [Act.put, List.setIfInBounds_toArray, List.set_cons_zero, List.set_cons_succ, i64_w, i32_w]; rfl)
              refine take_ (i := 4) (N := (some 57)) (v := .agg #[.int .i64 (rd_T39 l i).f0, .int .i64 (rd_T39 l i).f1, .bool (rd_T39 l i).f2, .string (rd_T39 l i).f3, .int .i64 (rd_T39 l i).f4.f0, .string (rd_T39 l i).f4.f1, .string (rd_T39 l i).f4.f2, .int .i64 (rd_T39 l i).f4.f3, .int .i64 (rd_T39 l i).f5, .int .i64 (rd_T39 l i).f6, .int .i64 (rd_T39 l i).f7.f0, .int .i64 (rd_T39 l i).f7.f1, .string (rd_T39 l i).f8.f0, .string (rd_T39 l i).f8.f1, .int .i64 (rd_T39 l i).f8.f2, .bool (rd_T39 l i).f9]) (a' := ?_) (ar 12 5) rfl rfl (take_ofW HT_.out HW_.out (by kernel_rfl)) (fun _ _ _ h => h) (Or.inl ⟨by rfl, fun w1 hs1 => exec_load_p 39 (.tmp 4) rfl ⟨g4, 0, none⟩ rfl [.int .i64 (rd_T39 l i).f0, .int .i64 (rd_T39 l i).f1, .bool (rd_T39 l i).f2, .string (rd_T39 l i).f3, .int .i64 (rd_T39 l i).f4.f0, .string (rd_T39 l i).f4.f1, .string (rd_T39 l i).f4.f2, .int .i64 (rd_T39 l i).f4.f3, .int .i64 (rd_T39 l i).f5, .int .i64 (rd_T39 l i).f6, .int .i64 (rd_T39 l i).f7.f0, .int .i64 (rd_T39 l i).f7.f1, .string (rd_T39 l i).f8.f0, .string (rd_T39 l i).f8.f1, .int .i64 (rd_T39 l i).f8.f2, .bool (rd_T39 l i).f9] _ (blk_cells (hs1.blk B4.out (fun e => HF4.out (Or.inr (Or.inr (Or.inl e)))))) Try.underlying39 rfl (by kernel_rfl)⟩) hHeld ?_ ?_; rotate_left; (· simp only [Act.put, List.setIfInBounds_toArray, List.set_cons_zero, List.set_cons_succ, i64_w, i32_w]; rfl)
              refine two_ (i := 5) (j := 9) (Ni := some 58) (Nj := some 5) (ar 12 6) #[true, true, true, true, true, false, false, false, false, true, false, false] rfl rfl rfl rfl (by kernel_rfl) (by decide) (by decide) (fun K hK => ?_) (fun K hK => ?_)
              · refine goes_ Try.func60 (by kernel_rfl) rfl #[.map (some bm), .agg #[.int .i64 (rd_T39 l i).f0, .int .i64 (rd_T39 l i).f1, .bool (rd_T39 l i).f2, .string (rd_T39 l i).f3, .int .i64 (rd_T39 l i).f4.f0, .string (rd_T39 l i).f4.f1, .string (rd_T39 l i).f4.f2, .int .i64 (rd_T39 l i).f4.f3, .int .i64 (rd_T39 l i).f5, .int .i64 (rd_T39 l i).f6, .int .i64 (rd_T39 l i).f7.f0, .int .i64 (rd_T39 l i).f7.f1, .string (rd_T39 l i).f8.f0, .string (rd_T39 l i).f8.f1, .int .i64 (rd_T39 l i).f8.f2, .bool (rd_T39 l i).f9]] (by rfl) rfl rfl (by (try simp only [List.map_toArray, List.map_cons, List.map_nil]); first | done | rfl) ?_; (with_reducible refine (HST7.out _ MP.out).mono ?_); rintro e w12 ⟨rfl, hst_⟩; refine ⟨_, rfl, ?_⟩; unfold StepTo at hst_; obtain ⟨hk_, k5, k51, k52, hm5⟩ := hst_; rw [HKP.out] at hm5; have HB12 := Lib.hid (HB.out.trans hk_); have M12 := Lib.hid hm5; refine hK.out _ _ HB12.out (fun hHeld => ?_); clear hK K hk_ hm5; refine norm_ (a' := ?_) ?_ ?_; rotate_left; (· show Act.put _ (some 58) _ = _; simp only [Act.put, List.setIfInBounds_toArray, List.set_cons_zero, List.set_cons_succ, i64_w, i32_w]; rfl)
                refine pY 6 (some 52) (ar 12 7) HT_ (h := ?_)
                refine pY 7 (some 59) (ar 12 8) HT_ (h := ?_)
                refine pY 8 (some 60) (ar 12 9) HT_ (h := ?_)
                refine one_ (i := 9) (N := (some 5)) (ar 12 10) rfl rfl (one_of HT_.out (by kernel_rfl)) (by decide) (fun K hK => ?_); refine box_step rfl (N := 5) rfl (cs := #[.bool false, .string ⟨#[]⟩, .int .i64 0, .int .i64 0, .int .i64 0]) (t := 130) (by first | (go_simp; done) | (go_simp; rfl)) ?_; intro g5 e5 w5 h5 b5; have B5 := Lib.hid h5; have L5 := Lib.hid (Nat.le_trans HB12.out.size (Nat.le_of_eq e5.symm)); have HB5 := Lib.hid (HB12.out.below b5); have M5 := Lib.hid (M12.out.kept (grown_of b5) (by simp)); clear h5 b5 e5; refine hK.out _ _ HB5.out (fun hHeld => ?_); clear hK K; refine norm_ (a' := ?_) ?_ ?_; rotate_left; (· show Act.put _ (some 5) _ = _; simp only [Act.put, List.setIfInBounds_toArray, List.set_cons_zero, List.set_cons_succ, i64_w, i32_w]; rfl)
                refine one_ (i := 10) (N := none) (ar 12 11) rfl rfl (one_of HT_.out (by kernel_rfl)) (by decide) (fun K hK => ?_); refine store_row_K 130 (.tmp 5) (.tmp 59) rfl g5 #[.bool c0.f0, .string c0.f1, .int .i64 c0.f2, .int .i64 c0.f3, .int .i64 c0.f4] rfl rfl 130 _ B5.out (by kernel_rfl) rfl (by simp [Value.oneCell']) ?_; intro wq h_ q_; have HBq := Lib.hid (HB5.out.grown q_ (fun k_ e_ l_ => by injection e_ with e_; have := L5.out; omega)); have Mq := Lib.hid (M5.out.kept q_ (by intro e_; injection e_ with e_; have h1 := HS.out.hm.lt; have := L5.out; omega)); have Bq := Lib.hid h_; clear h_ q_; refine hK.out _ _ HBq.out (fun hHeld => ?_); clear hK K
                refine pY 11 (some 6) (ar 12 12) HT_ (h := ?_)
                refine done_ (done_of HT_.out (by kernel_rfl)) ?_
                try go_wp2
                go_meet
                case rel => exact ⟨g5, rfl, rfl, Lib.hid ⟨HBq.out, ⟨k5, k51, k52, Mq.out⟩, Bq.out, L5.out⟩⟩
              · refine box_step rfl (N := 5) rfl (cs := #[.bool false, .string ⟨#[]⟩, .int .i64 0, .int .i64 0, .int .i64 0]) (t := 130) (by first | (go_simp; done) | (go_simp; rfl)) ?_; intro g5 e5 w5 h5 b5; have B50 := Lib.hid h5; have L5 := Lib.hid (Nat.le_trans HB.out.size (Nat.le_of_eq e5.symm)); have N5 := Lib.hid (show g5 ≠ bm by have h1 := MP.out.lt; omega); replace HB := Lib.hid (HB.out.below b5); replace MP := Lib.hid (MP.out.kept (grown_of b5) (by simp)); clear h5 b5 e5; refine hK.out _ _ HB.out (fun hHeld => ?_); clear hK K; refine norm_ (a' := ?_) ?_ ?_; rotate_left; (· show Act.put _ (some 5) _ = _; simp only [Act.put, List.setIfInBounds_toArray, List.set_cons_zero, List.set_cons_succ, i64_w, i32_w]; rfl)
                refine one_ (i := 5) (N := (some 58)) #[true, true, true, true, true, true, false, false, false, true, false, false] rfl rfl (one_of HT_.out (by kernel_rfl)) (by decide) (fun K hK => ?_); refine goes_ Try.func60 (by kernel_rfl) rfl #[.map (some bm), .agg #[.int .i64 (rd_T39 l i).f0, .int .i64 (rd_T39 l i).f1, .bool (rd_T39 l i).f2, .string (rd_T39 l i).f3, .int .i64 (rd_T39 l i).f4.f0, .string (rd_T39 l i).f4.f1, .string (rd_T39 l i).f4.f2, .int .i64 (rd_T39 l i).f4.f3, .int .i64 (rd_T39 l i).f5, .int .i64 (rd_T39 l i).f6, .int .i64 (rd_T39 l i).f7.f0, .int .i64 (rd_T39 l i).f7.f1, .string (rd_T39 l i).f8.f0, .string (rd_T39 l i).f8.f1, .int .i64 (rd_T39 l i).f8.f2, .bool (rd_T39 l i).f9]] (by rfl) rfl rfl (by (try simp only [List.map_toArray, List.map_cons, List.map_nil]); first | done | rfl) ?_; (with_reducible refine (HST7.out _ MP.out).mono ?_); rintro e w12 ⟨rfl, hst_⟩; refine ⟨_, rfl, ?_⟩; unfold StepTo at hst_; obtain ⟨hk_, k5, k51, k52, hm5⟩ := hst_; rw [HKP.out] at hm5; have HB5 := Lib.hid (HB.out.trans hk_); have B5 := Lib.hid (hk_.blk B50.out N5.out); have M5 := Lib.hid hm5; refine hK.out _ _ HB5.out (fun hHeld => ?_); clear hK K hk_ hm5; refine norm_ (a' := ?_) ?_ ?_; rotate_left; (· show Act.put _ (some 58) _ = _; simp only [Act.put, List.setIfInBounds_toArray, List.set_cons_zero, List.set_cons_succ, i64_w, i32_w]; rfl)
                refine pY 6 (some 52) #[true, true, true, true, true, true, true, false, false, true, false, false] HT_ (h := ?_)
                refine pY 7 (some 59) #[true, true, true, true, true, true, true, true, false, true, false, false] HT_ (h := ?_)
                refine pY 8 (some 60) (ar 12 10) HT_ (h := ?_)
                refine one_ (i := 10) (N := none) (ar 12 11) rfl rfl (one_of HT_.out (by kernel_rfl)) (by decide) (fun K hK => ?_); refine store_row_K 130 (.tmp 5) (.tmp 59) rfl g5 #[.bool c0.f0, .string c0.f1, .int .i64 c0.f2, .int .i64 c0.f3, .int .i64 c0.f4] rfl rfl 130 _ B5.out (by kernel_rfl) rfl (by simp [Value.oneCell']) ?_; intro wq h_ q_; have HBq := Lib.hid (HB5.out.grown q_ (fun k_ e_ l_ => by injection e_ with e_; have := L5.out; omega)); have Mq := Lib.hid (M5.out.kept q_ (by intro e_; injection e_ with e_; have h1 := HS.out.hm.lt; have := L5.out; omega)); have Bq := Lib.hid h_; clear h_ q_; refine hK.out _ _ HBq.out (fun hHeld => ?_); clear hK K
                refine pY 11 (some 6) (ar 12 12) HT_ (h := ?_)
                refine done_ (done_of HT_.out (by kernel_rfl)) ?_
                try go_wp2
                go_meet
                case rel => exact ⟨g5, rfl, rfl, Lib.hid ⟨HBq.out, ⟨k5, k51, k52, Mq.out⟩, Bq.out, L5.out⟩⟩
            case rest =>
              obtain ⟨g5, rfl, rfl, HF⟩ := hcut
              obtain ⟨hk7, ⟨k7, k71, k72, hm7⟩, hb5, hl5⟩ := HF.out
              have HF5 := Lib.hid (show ¬ Xs gp gi bm v' g5 from fun hx => by have := (HS.out.lt hx).2; omega)
              have L5 := Lib.hid (show w.heap.size ≤ g5 by have := HKW.out.1.size; omega)
              replace B4 := Lib.hid (hk7.blk B4.out (fun e => HF4.out (Or.inr (Or.inr (Or.inl e)))))
              have B5 := Lib.hid hb5
              replace HKW := Lib.hid (And.intro (keep_map HKW.out.1 hk7) HKW.out.2)
              replace HS := Lib.hid (HS.out.map hk7 hm7)
              have HK7 := Lib.hid (And.intro k71 k72)
              clear HF hk7 hm7 hb5 hl5 k71 k72
              have HKM := Lib.hid (show updK m (kyF l i.toNat) (hapF (m (kyF l i.toNat)) (cl l i.toNat)).1 = κ from by rw [← HKP.out]; exact (if_pos HOK.out).symm)
              have HOM := Lib.hid (show o.length ≤ 1000000 by have := HOL.out; have := HN.out; omega)
              have HND := Lib.hid (And.intro (nxt_nodup HD.out.1 HX.out) (nxt_lt HD.out.2.1 PI.out.2.2))
              have HLF := Lib.hid (show l.length ≤ (o ++ [i.toNat]).length + f by rw [List.length_append]; have := HD.out.2.2; simp; omega)
              have HT9 := Lib.hid (show k7 + Tc l.length f ≤ 1000000000000000 by have h1 := HN1.out; have h2 := HQ.out; have h3 := HT.out; have h4 := HK7.out; omega)
              cases hg : goF l f (o ++ [i.toNat]) κ with
              | some r =>
                have HG := Lib.hid hg
                have HGS := Lib.hid (go_some (f := f) (r := r) HW.out PI.out.2.2 (fun j hj => HJ.out j (by have := PI.out; omega)) (by rw [try_go HX.out HOK.out, HKM.out]; exact hg))
                clear hg
                go_wp2_with (first
                  | (go_at_call 123; (with_reducible refine (put_yes w0 _ (some ad) c l gp gi bm o k7 κ v' i HR.out HC.out HN.out HOM.out PI.out.1 PI.out.2.1 HCI.out HS.out).mono ?_); rintro e_ W8 ⟨rfl, hp_⟩; unfold PutTo at hp_; obtain ⟨v8, hs8, hk8, hn8⟩ := hp_; have HF48 := Lib.hid (fun hx => HF4.out (xs_new hn8 (blk_lt B4.out) hx) : ¬ Xs gp gi bm v8 g4); have HF58 := Lib.hid (fun hx => HF5.out (xs_new hn8 (blk_lt B5.out) hx) : ¬ Xs gp gi bm v8 g5); replace B4 := Lib.hid (hk8.blk B4.out HF4.out); replace B5 := Lib.hid (hk8.blk B5.out HF5.out); have KW8 := Lib.hid (And.intro (HKW.out.1.xs HKW.out.2 hk8) (HKW.out.2.trans HKW.out.1.size hn8)); have HS8 := Lib.hid hs8; clear hs8 hk8 hn8)
                  | (go_at_call 91; (with_reducible refine (ih_use IH.out (o ++ [i.toNat]) κ v8 k7 _ HND.out.1 HND.out.2 HLF.out HT9.out HS8.out).mono ?_); rintro e_ W9 h9; obtain ⟨rfl, v9, n9, m9, hs9, hk9⟩ := run_yes HG.out h9; have HS9 := Lib.hid hs9; have KW9 := Lib.hid (KW8.out.1.xs KW8.out.2 hk9); clear hs9 hk9 h9)
                  | (fail))
                go_ret
                exact Or.inl ⟨r, v9, n9, m9, HGS.out, rfl, HS9.out, KW9.out⟩
              | none =>
                have HG := Lib.hid hg
                have HJ2 : RowKit.Hid (∀ j : Nat, (j : Int) < i + 1 → tryF l f o m j = none) := Lib.hid (fun j hj => by
                  by_cases e : j = i.toNat
                  · rw [e, try_go HX.out HOK.out, HKM.out]; exact hg
                  · exact HJ.out j (by have := PI.out; omega))
                clear hg
                go_upto_region 13 with (first
                  | (go_at_call 123; (with_reducible refine (put_yes w0 _ (some ad) c l gp gi bm o k7 κ v' i HR.out HC.out HN.out HOM.out PI.out.1 PI.out.2.1 HCI.out HS.out).mono ?_); rintro e_ W8 ⟨rfl, hp_⟩; unfold PutTo at hp_; obtain ⟨v8, hs8, hk8, hn8⟩ := hp_; have HF48 := Lib.hid (fun hx => HF4.out (xs_new hn8 (blk_lt B4.out) hx) : ¬ Xs gp gi bm v8 g4); have HF58 := Lib.hid (fun hx => HF5.out (xs_new hn8 (blk_lt B5.out) hx) : ¬ Xs gp gi bm v8 g5); replace B4 := Lib.hid (hk8.blk B4.out HF4.out); replace B5 := Lib.hid (hk8.blk B5.out HF5.out); have KW8 := Lib.hid (And.intro (HKW.out.1.xs HKW.out.2 hk8) (HKW.out.2.trans HKW.out.1.size hn8)); have HS8 := Lib.hid hs8; clear hs8 hk8 hn8)
                  | (go_at_call 91; (with_reducible refine (ih_use IH.out (o ++ [i.toNat]) κ v8 k7 _ HND.out.1 HND.out.2 HLF.out HT9.out HS8.out).mono ?_); rintro e_ W9 h9; obtain ⟨rfl, v9, n9, hn9, hs9, hk9, hb9⟩ := run_no HG.out h9; have HN9 := Lib.hid hn9; have HF49 := Lib.hid (fun hx => HF48.out (xs_new hb9 (blk_lt B4.out) hx) : ¬ Xs gp gi bm v9 g4); have HF59 := Lib.hid (fun hx => HF58.out (xs_new hb9 (blk_lt B5.out) hx) : ¬ Xs gp gi bm v9 g5); replace B4 := Lib.hid (hk9.blk B4.out HF48.out); replace B5 := Lib.hid (hk9.blk B5.out HF58.out); have KW9 := Lib.hid (And.intro (KW8.out.1.xs KW8.out.2 hk9) (KW8.out.2.trans KW8.out.1.size hb9)); have HS9 := Lib.hid hs9; clear hs9 hk9 hb9 h9 hn9)
                  | (go_at_call 123; (with_reducible refine (put_no w0 _ (some ad) c l gp gi bm o n9 κ v9 i HR.out HC.out HN.out HOM.out PI.out.1 PI.out.2.1 HCI.out HS9.out).mono ?_); rintro e_ W10 ⟨rfl, hp_⟩; unfold PutTo at hp_; obtain ⟨v10, hs10, hk10, hn10⟩ := hp_; replace B4 := Lib.hid (hk10.blk B4.out HF49.out); replace B5 := Lib.hid (hk10.blk B5.out HF59.out); have KW10 := Lib.hid (And.intro (KW9.out.1.xs KW9.out.2 hk10) (KW9.out.2.trans KW9.out.1.size hn10)); have HS10 := Lib.hid hs10; clear hs10 hk10 hn10)
                  | (fail))
                refine start_ (n := 8) (S := fun w1 => Below W10.heap.size W10 w1) (ds := [7]) (ar 8 0) (by kernel_rfl) rfl rfl (below_drew1 (Below.refl _ _)) (fun hHeld => ?_); refine with_tabW run.tab13 run.bits13 (fun HT_ HW_ => ?_)
                have HB := Lib.hid (below_drew1 (Below.refl W10.heap.size W10))
                generalize W10.drew = wz at HB hHeld ⊢
                refine pY 0 (some 71) (ar 8 1) HT_ (h := ?_)
                refine pY 1 (some 72) (ar 8 2) HT_ (h := ?_)
                refine pY 2 (some 73) (ar 8 3) HT_ (h := ?_)
                refine take_ (i := 3) (N := (some 74)) (v := ?_) (a' := ?_) (ar 8 4) rfl rfl (take_ofW HT_.out HW_.out (by kernel_rfl)) (fun _ _ _ h => h) (Or.inl ⟨by rfl, ?_⟩) hHeld ?_ ?_; rotate_left; (· rintro w1 hs1; have kc : w1.cell? ⟨gp, 2, none⟩ = some (.map (some bm)) := (blk_cell (blk_below HS10.out.hp hs1) _).trans rfl; go_simp; with_reducible rfl); rotate_left; (· simp only [Act.put, List.setIfInBounds_toArray, List.set_cons_zero, List.set_cons_succ, i64_w, i32_w]; rfl)
                refine pY 4 (some 75) (ar 8 5) HT_ (h := ?_)
                refine take_ (i := 5) (N := (some 76)) (v := ?_) (a' := ?_) (ar 8 6) rfl rfl (take_ofW HT_.out HW_.out (by kernel_rfl)) (fun _ _ _ h => h) (Or.inl ⟨by rfl, ?_⟩) hHeld ?_ ?_; rotate_left; (· rintro w1 hs1; have kc : w1.cell? ⟨g4, 3, none⟩ = some (.string (rd_T39 l i).f3) := (blk_cell (blk_below B4.out hs1) _).trans rfl; go_simp; with_reducible rfl); rotate_left; (· simp only [Act.put, List.setIfInBounds_toArray, List.set_cons_zero, List.set_cons_succ, i64_w, i32_w]; rfl)
                refine take_ (i := 6) (N := (some 77)) (v := .agg #[.bool c0.f0, .string c0.f1, .int .i64 c0.f2, .int .i64 c0.f3, .int .i64 c0.f4]) (a' := ?_) (ar 8 7) rfl rfl (take_ofW HT_.out HW_.out (by kernel_rfl)) (fun _ _ _ h => h) (Or.inl ⟨by rfl, fun w1 hs1 => exec_load_p 130 (.tmp 5) rfl ⟨g5, 0, none⟩ rfl [.bool c0.f0, .string c0.f1, .int .i64 c0.f2, .int .i64 c0.f3, .int .i64 c0.f4] _ (blk_cells (blk_below B5.out hs1)) Try.underlying130 rfl (by kernel_rfl)⟩) hHeld ?_ ?_; rotate_left; (· simp only [Act.put, List.setIfInBounds_toArray, List.set_cons_zero, List.set_cons_succ, i64_w, i32_w]; rfl)
                refine last_ (i := 7) (N := none) (ar 8 8) rfl rfl (one_of HT_.out (by kernel_rfl)) (by decide) (fun K hK => ?_); refine wp_update_cell (.tmp 74) (.tmp 76) (.tmp 77) rfl bm n9 κ rfl (HS10.out.hm.kept (grown_of HB.out) (by simp)) (by have := HQ.out; have := HN9.out; have := HN1.out; have := HK7.out; have := HT.out; unfold maxLen; omega) (rd_T39 l i).f3 c0 rfl rfl HKS.out ?_; intro wq hm_ q_; have M13 := Lib.hid hm_; have K13 := Lib.hid ((Keep.of_below (X := (· = bm)) HB.out).grown q_ (fun k_ e_ _ => by injection e_ with e_; exact e_.symm)); clear hm_ q_; refine hK.out _ _ ?_; clear hK K
                refine done_ (done_of HT_.out (by kernel_rfl)) ?_
                have HMB := Lib.hid (show updK κ (rd_T39 l i).f3.toList c0 = m by rw [← HKM.out, ← HC0.out]; exact upd_back m _ _)
                go_wp2
                go_roundw
                case rel => exact ⟨i + 1, by first | rfl | go_num, ⟨by have := PI.out; omega, by have := PI.out; omega⟩, HJ2, Lib.hid ⟨v10, n9 + 1, by rw [show (i + 1).toNat = i.toNat + 1 by have := PI.out; omega, Nat.add_mul]; have := HN1.out; have := HK7.out; have := HN9.out; omega, HS10.out.map K13.out (by rw [← HMB.out]; exact M13.out), keep_map KW10.out.1 K13.out, KW10.out.2⟩⟩
                case measure => have := PI.out; simp [intOf]; omega
    · have hnl : decide (i < (l.length : Int)) = false := decide_eq_false hlt
      have ei : i = (l.length : Int) := by omega
      subst ei
      have HG := Lib.hid (go_none (f := f) HW.out HJ.out)
      clear i0 i1 hlt
      go_wp2
      go_ret
      obtain ⟨v', n', hn', hs', hk', hb'⟩ := HAI.out
      exact Or.inr ⟨HG.out, rfl, v', n', by have h1 : Tc l.length (f + 1) = l.length * (Tc l.length f + 2) := rfl; rw [h1]; simpa using hn', hs', hk', hb'⟩
end Go.Proofs.Ytbakmkoppieelaa.PLinearChecks

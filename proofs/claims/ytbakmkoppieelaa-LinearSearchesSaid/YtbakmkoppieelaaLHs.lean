/- What is proved: the walk of the law LinearSearches: it returns true; the conditions stand in the theorem. -/
import Derived.Test.YtbakmkoppieelaaLHf
import Derived.BigQuiet
import Derived.Deep.QuietTactic
namespace Go.Proofs.Ytbakmkoppieelaa.PLinearChecks
open Go.RowKit Go.Proofs.YtbakmkoppieelaaW.PrintWords Go.Proofs.YtbakmkoppieelaaW.PrintLast Go.Proofs.YtbakmkoppieelaaW.PrintMore
set_option linter.unusedVariables false
set_option linter.unusedSimpArgs false
theorem one_RI (W : World) (x : Int) : Kd.R (Kd.int .i64) 3 (W.alloc (.cells #[.int .i64 x] 3)) W.heap.size (fun _ => True) (.slice (some ⟨W.heap.size, 0, none⟩) 1 1) [x] := by
  refine ⟨fun k hk => trivial, [.int .i64 x], ?_, reps_ints [x]⟩
  have h2 := World.ownsRow_lit (base := W.heap.size) (e := 3) (size := (Kd.int .i64).sz) W #[.int .i64 x] 1 (Nat.le_refl _) (by decide) (by rfl)
  simpa using h2
theorem one_CI (W : World) (x : Int) : Kd.C (Kd.int .i64) (W.alloc (.cells #[.int .i64 x] 3)) (some ⟨W.heap.size, 0, none⟩) 1 [x] := (Kd.R_reads' (one_RI W x)).2.2
theorem ix_last (xs : List Int) (x : Int) : ix (xs ++ [x]) (xs.length : Int) = x := by
  unfold ix
  rw [Int.toNat_natCast, List.getD_eq_getElem?_getD, List.getElem?_append_right (Nat.le_refl _), Nat.sub_self]
  rfl
set_option maxRecDepth 100000 in
set_option maxHeartbeats 8000000 in
theorem sint_any (w : World) (A D : Option Addr) (c d : Nat) (xs : List Int) (hx : Kd.C (Kd.int .i64) w A xs.length xs) (hy : Kd.C (Kd.int .i64) w D xs.length xs) (hn : xs.length ≤ 100000000000000) :
    Calls Try.prog 31 #[.slice A xs.length c, .slice D xs.length d] w fun e w' => e = .returned (.bool true) ∧ Below w.heap.size w w' := by
  have HX := Lib.hid hx
  have HY := Lib.hid hy
  have HN := Lib.hid hn
  clear hx hy hn
  go_enter Try.func31, Try.ntmps31
  go_wp2
  go_loopw [5] (fun v5 wr => ∃ k : Int, v5 = .int .i64 k ∧ (0 ≤ k ∧ k ≤ (xs.length : Int)) ∧ RowKit.Hid (Below w.heap.size w wr)) (fun v5 _ => ((xs.length : Int) - intOf v5).toNat)
  case atStart => exact ⟨0, rfl, ⟨by omega, by omega⟩, Lib.hid (Below.refl _ _)⟩
  case round =>
    obtain ⟨k, rfl, ⟨k0, k1⟩, HB⟩ := hrel
    by_cases hlt : k < (xs.length : Int)
    · have c1 : decide (k < (xs.length : Int)) = true := decide_eq_true hlt
      have PK := Lib.hid (show 0 ≤ k ∧ k < (xs.length : Int) by omega)
      have pK := eq_true k0
      have qK := eq_true hlt
      have wi : wrap64 (k + 1) = k + 1 := by have h2 := HN.out; unfold wrap64; omega
      have wi2 : IntKind.i64.wrap (k + 1) = k + 1 := (i64_w _).trans wi
      obtain ⟨ad, eA, kx⟩ := int_at (Kd.C_below HX.out HB.out) k k0 hlt
      obtain ⟨ae, eD, ky⟩ := int_at (Kd.C_below HY.out HB.out) k k0 hlt
      cases eA
      cases eD
      obtain ⟨y, hy⟩ : ∃ y, ix xs k = y := ⟨_, rfl⟩
      rw [hy] at kx ky
      clear k0 k1 hlt hy
      go_upto_region 4 with ((fail))
      go_quiet (fail)
      have HB := Lib.hid (pw_below_drewN HB.out nq)
      clear kx ky
      go_wp2_with ((fail))
      go_roundw
      case rel => exact ⟨k + 1, by first | rfl | go_num, ⟨by have := PK.out; omega, by have := PK.out; omega⟩, HB⟩
      case measure => have := PK.out; simp [intOf]; omega
    · have hnl : decide (k < (xs.length : Int)) = false := decide_eq_false hlt
      have ek : k = (xs.length : Int) := by omega
      subst ek
      clear k0 k1 hlt
      go_wp2_with ((fail))
      go_ret
      exact ⟨by first | rfl | simp, HB.out⟩
set_option maxHeartbeats 64000000 in
set_option maxRecDepth 100000 in
theorem holdslaw_walk (w : World) (A Ax : Option Addr) (c cx : Nat) (l : List S39) (xs : List Int) (hr : Kd.C k39 w A l.length l) (hc : l.length ≤ c) (hx : Kd.C (Kd.int .i64) w Ax xs.length xs) (hcx : xs.length ≤ cx) (hn : l.length * 168 ≤ 140737488351232) (hnx : xs.length * 8 ≤ 140737488351232) (hwf : ∀ x ∈ l, wfC x) (hks : ∀ i : Int, 0 ≤ i → i < l.length → (rd_T39 l i).f3.size ≤ maxLen) :
    Calls Try.prog 10 #[.slice A l.length c, .slice Ax xs.length cx] w fun e w' => e = .returned (.bool true) ∧ Below w.heap.size w w' := by
  have HN := Lib.hid (show l.length ≤ 1000000000000 ∧ (l.length + 2) * 168 ≤ 140737488355328 ∧ xs.length ≤ 100000000000000 ∧ (xs.length + 1) * 8 ≤ 140737488355328 by omega)
  have HF := Lib.hid (And.intro hwf hks)
  have HC := Lib.hid (And.intro hc hcx)
  have RM := Lib.hid (roomy w A c l hr hc HN.out.2.1)
  have CA := Lib.hid hr
  have CX := Lib.hid hx
  have HB := Lib.hid (Below.refl w.heap.size w)
  obtain ⟨⟨pa, pe⟩, hpq⟩ : ∃ q, RowKit.Hid (hldA l xs = q) := ⟨_, Lib.hid rfl⟩
  have hrq := Lib.hid ((hld_eq (xs := xs) HN.out.1).trans hpq.out)
  clear hr hx hn hnx hwf hks hc hcx
  go_enter Try.func10, Try.ntmps10
  go_upto_region 2 with (first
    | (go_at_call 14; (with_reducible refine RM.out.mono ?_); rintro e_ W1 ⟨A', c', rfl, hc1, hR, hb⟩; have CM := Lib.hid (Kd.R_reads' hR).2.2; have HM := Lib.hid hc1; replace CA := Lib.hid (Kd.C_below CA.out hb); replace CX := Lib.hid (Kd.C_below CX.out hb); replace HB := Lib.hid (below_step HB.out hb); clear hb hc1 hR)
    | (fail))
  go_upto_region 3 with (first
    | ((with_reducible refine gate_dst (N := 14) rfl ?_); refine Kd.R_append_rows (Kd.int .i64) (Rr := (Kd.int .i64).K W1) (w0 := W1) W1.heap.size rfl (.const (.slice none 0 0)) (.tmp 13) 54 3 (.int .i64 0) 8 rfl Try.underlying54 info3 rfl (by decide) (by decide) (.slice none 0 0) [] xs Ax xs.length cx (fun _ => True) (fun _ => False) rfl rfl (Kd.R_nil _ _ _ _ _) CX.out (fun x cs h => h) (fun _ h => h.elim) (fun _ _ => trivial) (Below.refl _ _) (Nat.le_refl _) (by have h1 := HN.out.2.2; simp; omega) ?_; intro v4 w4 hR hb hg hat; rw [List.nil_append] at hR; have F4 := Lib.hid (And.intro hR hb); obtain ⟨A4, c4, rfl, hc4, -⟩ := Kd.R_reads hR; clear hR hb hg hat hc4)
    | ((with_reducible refine gate_dst (N := 16) rfl ?_); refine Kd.R_append_rows (Kd.int .i64) (Rr := (Kd.int .i64).K (w4.alloc (.cells #[.int .i64 (-91)] 3))) (w0 := W1) W1.heap.size rfl (.tmp 14) (.tmp 15) 54 3 (.int .i64 0) 8 rfl Try.underlying54 info3 rfl (by decide) (by decide) (.slice A4 xs.length c4) xs [-91] (some ⟨w4.heap.size, 0, none⟩) 1 1 (fun _ => True) (fun _ => False) rfl rfl (Kd.R_alloc F4.out.1 _) (one_CI w4 (-91)) (fun x cs h => h) (fun _ h => h.elim) (fun _ _ => trivial) (F4.out.2.alloc F4.out.2.size _) (by have h := F4.out.2.size; simp; omega) (by have h1 := HN.out.2.2; simp; omega) ?_; intro v6 w6 hR hb hg hat; obtain ⟨A6, c6, rfl, hc6, hC6⟩ := Kd.R_reads hR; have C6 := Lib.hid hC6; have H6 := Lib.hid (show xs.length + 1 ≤ c6 by simpa using hc6); replace CA := Lib.hid (Kd.C_below CA.out hb); replace CX := Lib.hid (Kd.C_below CX.out hb); replace CM := Lib.hid (Kd.C_below CM.out hb); replace HB := Lib.hid (below_step HB.out hb); rw [show (xs ++ [(-91 : Int)]).length = xs.length + 1 from by simp]; clear hR hb hg hat hc6 hC6 F4)
    | (fail))
  have n1 := eq_true (show 0 ≤ (xs.length : Int) by omega)
  have n2 := eq_true (show (xs.length : Int) ≤ (c6 : Int) by have := H6.out; omega)
  have n3 := eq_true (show xs.length ≤ c6 by have := H6.out; omega)
  have n4 := eq_true (show xs.length < xs.length + 1 by omega)
  have n5 := eq_true (show (xs.length : Int) < (xs.length : Int) + 1 by omega)
  go_wp2_with (first
    | (go_at_call 36; (with_reducible refine (holds_any _ A' A6 c' c6 l xs (by have h := Kd.C_take CM.out (m := l.length) (by rw [List.length_append]; omega); rw [List.take_left' rfl] at h; exact h) (by have := HM.out; omega) (by have h := Kd.C_take C6.out (m := xs.length) (by rw [List.length_append]; omega); rw [List.take_left' rfl] at h; exact h) (by have := H6.out; omega) HN.out.1 HN.out.2.2.1 HF.out.1 HF.out.2).mono ?_); rintro e_ W7 ⟨h_, hb⟩; rw [hpq.out] at h_; subst h_; replace CA := Lib.hid (Kd.C_below CA.out hb); replace CX := Lib.hid (Kd.C_below CX.out hb); replace CM := Lib.hid (Kd.C_below CM.out hb); replace C6 := Lib.hid (Kd.C_below C6.out hb); replace HB := Lib.hid (below_step HB.out hb); clear hb)
    | (go_at_call 37; (with_reducible refine (rholds_any runR (fun A Ax c cx l xs W h1 h2 h3 h4 h5 h6 h7 => rrun_any W A Ax c cx l xs h1 h2 h3 h4 h5 h6 h7) _ A Ax c cx l xs CA.out HC.out.1 CX.out HC.out.2 HN.out.1 HN.out.2.2.1).mono ?_); rintro e_ W8 ⟨h_, hb⟩; rw [hrq.out] at h_; subst h_; replace CA := Lib.hid (Kd.C_below CA.out hb); replace CX := Lib.hid (Kd.C_below CX.out hb); replace CM := Lib.hid (Kd.C_below CM.out hb); replace C6 := Lib.hid (Kd.C_below C6.out hb); replace HB := Lib.hid (below_step HB.out hb); clear hb)
    | (go_at_call 15; (with_reducible refine (hawserlaw26_num.calls pe pe _ rfl).mono ?_); rintro e_ W9 ⟨rfl, hd⟩; have hb := hd.below; clear hd; replace CA := Lib.hid (Kd.C_below CA.out hb); replace CX := Lib.hid (Kd.C_below CX.out hb); replace CM := Lib.hid (Kd.C_below CM.out hb); replace C6 := Lib.hid (Kd.C_below C6.out hb); replace HB := Lib.hid (below_step HB.out hb); clear hb)
    | (go_at_call 18; have CK2 := CM.out; rw [List.length_append] at CK2; have CK3 : Kd.C k39 _ A' (l.length + 2) (l ++ marks) := CK2; (with_reducible refine (kept _ A' A c' c l CK3 HM.out CA.out HC.out.1 HN.out.1).mono ?_); rintro e_ W10 ⟨rfl, hb⟩; replace CA := Lib.hid (Kd.C_below CA.out hb); replace CX := Lib.hid (Kd.C_below CX.out hb); replace CM := Lib.hid (Kd.C_below CM.out hb); replace C6 := Lib.hid (Kd.C_below C6.out hb); replace HB := Lib.hid (below_step HB.out hb); clear hb CK2 CK3)
    | (go_at_call 31; (with_reducible refine (sint_any _ A6 Ax c6 cx xs (by have h := Kd.C_take C6.out (m := xs.length) (by rw [List.length_append]; omega); rw [List.take_left' rfl] at h; exact h) CX.out HN.out.2.2.1).mono ?_); rintro e_ W11 ⟨rfl, hb⟩; replace CA := Lib.hid (Kd.C_below CA.out hb); replace CX := Lib.hid (Kd.C_below CX.out hb); replace CM := Lib.hid (Kd.C_below CM.out hb); replace C6 := Lib.hid (Kd.C_below C6.out hb); obtain ⟨ad6, e6, k6⟩ := int_at C6.out (xs.length : Int) (by omega) (by rw [List.length_append]; show (xs.length : Int) < ((xs.length + 1 : Nat) : Int); omega); cases e6; rw [ix_last, Int.toNat_natCast] at k6; replace HB := Lib.hid (below_step HB.out hb); clear hb)
    | (go_at_call 32; (with_reducible refine (awake_any _).mono ?_); rintro e_ W12 ⟨rfl, hb⟩; replace HB := Lib.hid (below_step HB.out hb); clear hb)
    | (fail))
  go_ret
  exact ⟨by first | rfl | simp, HB.out⟩
/-- May a call be the next of an order, in the reference's words? -/
def nxtI (l : List S39) (xs : List Int) (k : Int) : Bool := !hasI xs k && (!((rd_T39 l k).f2 && !ansB (rd_T39 l k)) && (stnI l (xs ++ [k]) (xs.length : Int) && runR l (xs ++ [k])))
/-- The reference's search. -/
def leaF (l : List S39) : Nat → List Int → Option (List Int)
  | 0, xs => if whlI l xs then some xs else none
  | f + 1, xs => if whlI l xs then some xs else (List.range l.length).findSome? fun (k : Nat) => if nxtI l xs (k : Int) then leaF l f (xs ++ [(k : Int)]) else none
def leaT (l : List S39) (f : Nat) (xs : List Int) (k : Int) : Option (List Int) := if nxtI l xs k then leaF l f (xs ++ [k]) else none
/-- Places of a history, none twice. -/
def OkI (l : List S39) (xs : List Int) : Prop := (xs.map Int.toNat).Nodup ∧ ∀ x ∈ xs, 0 ≤ x ∧ x < l.length
theorem okI_len {l : List S39} {xs : List Int} (h : OkI l xs) : xs.length ≤ l.length := by
  have h2 := nodup_len l.length (xs.map Int.toNat) h.1 (by
    intro x hx
    obtain ⟨y, hy, rfl⟩ := List.mem_map.mp hx
    have := h.2 y hy
    omega)
  rw [List.length_map] at h2
  exact h2
theorem okI_has {l : List S39} {xs : List Int} (h : OkI l xs) {k : Int} (k0 : 0 ≤ k) : hasI xs k = (xs.map Int.toNat).contains k.toNat := by
  have h2 := has_con (fun x hx => (h.2 x hx).1) k.toNat
  rw [show ((k.toNat : Nat) : Int) = k by omega] at h2
  exact h2
theorem okI_snoc {l : List S39} {xs : List Int} {k : Int} (h : OkI l xs) (k0 : 0 ≤ k) (k1 : k < l.length) (hh : hasI xs k = false) : OkI l (xs ++ [k]) := by
  refine ⟨?_, fun x hx => ?_⟩
  · rw [List.map_append, List.nodup_append]
    refine ⟨h.1, by simp, fun a ha b hb => ?_⟩
    have hb := List.mem_singleton.mp hb
    subst hb
    intro e
    subst e
    rw [okI_has h k0, List.contains_iff_mem.mpr ha] at hh
    cases hh
  · rcases List.mem_append.mp hx with e | e
    · exact h.2 x e
    · rw [List.mem_singleton.mp e]; exact ⟨k0, k1⟩
theorem okI_ix {l : List S39} {xs : List Int} (h : OkI l xs) : ∀ j : Nat, j < xs.length → 0 ≤ ix xs (j : Int) ∧ ix xs (j : Int) < l.length := fun j hj => by
  rw [ix_get hj]
  exact h.2 _ (List.getElem_mem hj)
theorem lea_whole {l : List S39} {f : Nat} {xs : List Int} (h : whlI l xs = true) : leaF l f xs = some xs := by
  cases f <;> (rw [leaF, if_pos h])
theorem lea_none {l : List S39} {f : Nat} {xs : List Int} (h : whlI l xs = false) (hj : ∀ j : Nat, (j : Int) < l.length → leaT l f xs (j : Int) = none) : leaF l (f + 1) xs = none := by
  rw [leaF, if_neg (by rw [h]; decide), List.findSome?_eq_none_iff]
  exact fun k hk => hj k (by have := List.mem_range.mp hk; omega)
theorem lea_some {l : List S39} {f : Nat} {xs r : List Int} {k : Int} (h : whlI l xs = false) (k0 : 0 ≤ k) (k1 : k < l.length) (hj : ∀ j : Nat, (j : Int) < k → leaT l f xs (j : Int) = none) (hr : leaT l f xs k = some r) : leaF l (f + 1) xs = some r := by
  rw [leaF, if_neg (by rw [h]; decide)]
  refine find_at _ k.toNat r ?_ _ (by omega) (fun j hj2 => hj j (by omega))
  rw [show ((k.toNat : Nat) : Int) = k by omega]
  exact hr
theorem lea_not {l : List S39} {f : Nat} {xs : List Int} {k : Int} (h : nxtI l xs k = false) : leaT l f xs k = none := by unfold leaT; rw [h]; rfl
theorem lea_yes {l : List S39} {f : Nat} {xs : List Int} {k : Int} (h : nxtI l xs k = true) : leaT l f xs k = leaF l f (xs ++ [k]) := by unfold leaT; rw [h]; rfl
theorem lea_step {l : List S39} {f : Nat} {xs : List Int} {k : Int} (k0 : 0 ≤ k) (hj : ∀ j : Nat, (j : Int) < k → leaT l f xs (j : Int) = none) (h : leaT l f xs k = none) : ∀ j : Nat, (j : Int) < k + 1 → leaT l f xs (j : Int) = none := fun j h2 => by
  by_cases e : (j : Int) = k
  · rw [e]; exact h
  · exact hj j (by omega)
theorem okI_whole {l : List S39} {xs : List Int} (h : OkI l xs) (hl : l.length ≤ xs.length) : whlI l xs = true := by
  rw [whl_whl (fun x hx => (h.2 x hx).1)]
  exact whole_all h.1 (fun x hx => by
    obtain ⟨y, hy, rfl⟩ := List.mem_map.mp hx
    have := h.2 y hy
    omega) (by rw [List.length_map]; exact hl)
def LeaTo (w : World) (r : Option (List Int)) (e : Ending) (w' : World) : Prop :=
  ∃ A c, e = .returned (.tuple #[.slice A (r.getD []).length c, .bool r.isSome]) ∧ (r.getD []).length ≤ c ∧ Kd.C (Kd.int .i64) w' A (r.getD []).length (r.getD []) ∧ Below w.heap.size w w'
theorem nil_CI (w : World) : Kd.C (Kd.int .i64) w none 0 ([] : List Int) := (Kd.R_reads' (Kd.R_nil (Kd.int .i64) 3 w 0 (fun _ => True))).2.2
def LeaH (w : World) (A : Option Addr) (c : Nat) (l : List S39) (f : Nat) : Prop :=
  ∀ (xs : List Int) (W : World) (Ax : Option Addr) (cx : Nat), Below w.heap.size w W → Kd.C (Kd.int .i64) W Ax xs.length xs → xs.length ≤ cx → OkI l xs → l.length ≤ xs.length + f →
    Calls Try.prog 57 #[.slice A l.length c, .slice Ax xs.length cx] W fun e w' => LeaTo W (leaF l f xs) e w'
theorem lea_use {w : World} {r q : Option (List Int)} (h : r = q) {e : Ending} {w' : World} (h2 : LeaTo w r e w') : ∃ A c, e = .returned (.tuple #[.slice A (q.getD []).length c, .bool q.isSome]) ∧ (q.getD []).length ≤ c ∧ Kd.C (Kd.int .i64) w' A (q.getD []).length (q.getD []) ∧ Below w.heap.size w w' := by
  rw [h] at h2
  exact h2
theorem lea_to {W : World} {q : Option (List Int)} {r : List Int} (h : q = some r) {A : Option Addr} {c : Nat} {w' : World} (h1 : r.length ≤ c) (h2 : Kd.C (Kd.int .i64) w' A r.length r) (hb : Below W.heap.size W w') : LeaTo W q (.returned (.tuple #[.slice A r.length c, .bool true])) w' := by
  rw [h]
  exact ⟨A, c, rfl, h1, h2, hb⟩
theorem lea_to0 {W : World} {q : Option (List Int)} (h : q = none) {w' : World} (hb : Below W.heap.size W w') : LeaTo W q (.returned (.tuple #[.slice none 0 0, .bool false])) w' := by
  rw [h]
  exact ⟨none, 0, rfl, Nat.le_refl _, nil_CI w', hb⟩
set_option maxRecDepth 100000 in
set_option maxHeartbeats 16000000 in
theorem least_whole (w : World) (A : Option Addr) (c : Nat) (l : List S39) (hr : Kd.C k39 w A l.length l) (hc : l.length ≤ c) (hn : l.length ≤ 1000000000000) (f : Nat) (xs : List Int) (W : World) (Ax : Option Addr) (cx : Nat) (hB : Below w.heap.size w W) (hx : Kd.C (Kd.int .i64) W Ax xs.length xs) (hcx : xs.length ≤ cx) (hok : OkI l xs) (hw : whlI l xs = true) :
    Calls Try.prog 57 #[.slice A l.length c, .slice Ax xs.length cx] W fun e w' => LeaTo W (leaF l f xs) e w' := by
  have HX := Lib.hid hx
  have HCX := Lib.hid hcx
  have HE := Lib.hid (lea_whole (f := f) hw)
  have HWH := Lib.hid (show Calls Try.prog 55 #[.slice A l.length c, .slice Ax xs.length cx] W (fun e w' => e = .returned (.bool true) ∧ Below W.heap.size W w') from hw ▸ whole_any W A Ax c cx l xs (fun x W => ranswered_ag x (ansB x) rfl W) (Kd.C_below hr hB) hc hx hn (by have := okI_len hok; omega))
  have HB := Lib.hid (Below.refl W.heap.size W)
  clear hr hc hn hB hx hcx hok hw
  go_enter Try.func57, Try.ntmps57
  go_wp2_with (first
    | (go_at_call 55; (with_reducible refine HWH.out.mono ?_); rintro e_ W_ ⟨rfl, hb⟩; replace HB := Lib.hid (below_step HB.out hb); clear hb)
    | (fail))
  go_ret2
  exact lea_to HE.out HCX.out (Kd.C_below HX.out HB.out) HB.out
set_option maxRecDepth 100000 in
set_option maxHeartbeats 16000000 in
theorem least_step (w : World) (A : Option Addr) (c : Nat) (l : List S39) (hr : Kd.C k39 w A l.length l) (hc : l.length ≤ c) (hn : l.length ≤ 1000000000000) (f : Nat) (IH : LeaH w A c l f) (xs : List Int) (W : World) (Ax : Option Addr) (cx : Nat) (hB : Below w.heap.size w W) (hx : Kd.C (Kd.int .i64) W Ax xs.length xs) (hcx : xs.length ≤ cx) (hok : OkI l xs) (hlf : l.length ≤ xs.length + (f + 1)) (hw : whlI l xs = false) :
    Calls Try.prog 57 #[.slice A l.length c, .slice Ax xs.length cx] W fun e w' => LeaTo W (leaF l (f + 1) xs) e w' := by
  have HR := Lib.hid (Kd.C_below hr hB)
  have HX := Lib.hid hx
  have HC := Lib.hid (And.intro hc hcx)
  have HN := Lib.hid (show l.length ≤ 1000000000000 ∧ xs.length ≤ 1000000000000 ∧ xs.length ≤ l.length by have := okI_len hok; omega)
  have HOK := Lib.hid hok
  have HNW := Lib.hid hw
  have HWH := Lib.hid (show Calls Try.prog 55 #[.slice A l.length c, .slice Ax xs.length cx] W (fun e w' => e = .returned (.bool false) ∧ Below W.heap.size W w') from hw ▸ whole_any W A Ax c cx l xs (fun x W => ranswered_ag x (ansB x) rfl W) (Kd.C_below hr hB) hc hx hn (by have := okI_len hok; omega))
  have HREC := Lib.hid (fun k (hk : OkI l (xs ++ [k])) W' A6 c6 (h1 : Below W.heap.size W W') (h2 : Kd.C (Kd.int .i64) W' A6 (xs ++ [k]).length (xs ++ [k])) (h3 : (xs ++ [k]).length ≤ c6) => IH (xs ++ [k]) W' A6 c6 (below_step hB h1) h2 h3 hk (by rw [List.length_append]; show l.length ≤ xs.length + 1 + f; omega))
  have HB := Lib.hid (Below.refl W.heap.size W)
  clear hr hc hn hB hx hcx hok hw IH hlf
  go_enter Try.func57, Try.ntmps57
  go_wp2_with (first
    | (go_at_call 55; (with_reducible refine HWH.out.mono ?_); rintro e_ W_ ⟨rfl, hb⟩; replace HB := Lib.hid (below_step HB.out hb); clear hb)
    | (fail))
  go_loopw [6] (fun v6 wr => ∃ k : Int, v6 = .int .i64 k ∧ (0 ≤ k ∧ k ≤ (l.length : Int)) ∧ RowKit.Hid (∀ j : Nat, (j : Int) < k → leaT l f xs (j : Int) = none) ∧ RowKit.Hid (Below W.heap.size W wr)) (fun v6 _ => ((l.length : Int) - intOf v6).toNat)
  case atStart => exact ⟨0, rfl, ⟨by omega, by omega⟩, Lib.hid (fun j hj => absurd hj (by omega)), HB⟩
  case round =>
    clear HB HWH
    obtain ⟨k, rfl, ⟨k0, k1⟩, HJ, HB⟩ := hrel
    by_cases hlt : k < (l.length : Int)
    · have c1 : decide (k < (l.length : Int)) = true := decide_eq_true hlt
      have PK := Lib.hid (show 0 ≤ k ∧ k < (l.length : Int) by omega)
      have pK := eq_true k0
      have qK := eq_true hlt
      have wi : wrap64 (k + 1) = k + 1 := by have h2 := HN.out; unfold wrap64; omega
      have wi2 : IntKind.i64.wrap (k + 1) = k + 1 := (i64_w _).trans wi
      obtain ⟨ad, eA, -, -, x2, -⟩ := at_T39 (Kd.C_below HR.out HB.out) k k0 hlt
      cases eA
      have X2 := Lib.hid x2
      have HH := Lib.hid (fun b (W' : World) (hW : Below W.heap.size W W') (h : hasI xs k = b) => (show Calls Try.prog 54 #[.slice Ax xs.length cx, .int .i64 k] W' (fun e w' => e = .returned (.bool b) ∧ W' = w') from h ▸ has_any W' Ax cx xs k (Kd.C_below HX.out hW) (by have := HN.out; omega)))
      clear k0 k1 hlt x2
      cases hh : hasI xs k with
      | true =>
        replace HH := Lib.hid (fun W' hW => HH.out true W' hW hh)
        have HJ2 := Lib.hid (lea_step PK.out.1 HJ.out (lea_not (by unfold nxtI; rw [hh]; rfl)))
        clear hh
        go_wp2_with (first
          | (go_at_call 54; (with_reducible refine (HH.out _ HB.out).mono ?_); rintro e_ W_ ⟨rfl, rfl⟩)
          | (fail))
        go_roundw
        case rel => exact ⟨k + 1, by first | rfl | go_num, ⟨by have := PK.out; omega, by have := PK.out; omega⟩, HJ2, HB⟩
        case measure => have := PK.out; simp [intOf]; omega
      | false =>
        replace HH := Lib.hid (fun W' hW => HH.out false W' hW hh)
        have OKY := Lib.hid (okI_snoc HOK.out PK.out.1 PK.out.2 hh)
        obtain ⟨ys, ey⟩ : ∃ q, xs ++ [k] = q := ⟨_, rfl⟩
        have EY := Lib.hid ey
        have HRE := Lib.hid (HREC.out k OKY.out)
        rw [ey] at OKY HRE
        have HYL := Lib.hid (show ys.length = xs.length + 1 by rw [← ey]; simp)
        have HYX := Lib.hid (show ix ys (xs.length : Int) = k by rw [← ey]; exact ix_last xs k)
        have HST := Lib.hid (fun b W' A6 c6 (h1 : Below W.heap.size W W') (h2 : Kd.C (Kd.int .i64) W' A6 ys.length ys) (h3 : ys.length ≤ c6) (h : stnI l ys (xs.length : Int) = b) => (show Calls Try.prog 62 #[.slice (some ad) l.length c, .slice A6 ys.length c6, .int .i64 (xs.length : Int)] W' (fun e w' => e = .returned (.bool b) ∧ Below W'.heap.size W' w') from h ▸ stands_any W' (some ad) A6 c c6 l ys (xs.length : Int) (Kd.C_below HR.out h1) HC.out.1 h2 h3 HN.out.1 (by have h4 := HYL.out; have h5 := HN.out; omega) (by omega) (by have h4 := HYL.out; omega) (by rw [HYX.out]; exact PK.out.1) (by rw [HYX.out]; exact PK.out.2)))
        have HRU := Lib.hid (fun b W' A6 c6 (h1 : Below W.heap.size W W') (h2 : Kd.C (Kd.int .i64) W' A6 ys.length ys) (h3 : ys.length ≤ c6) (h : runR l ys = b) => (show Calls Try.prog 63 #[.slice (some ad) l.length c, .slice A6 ys.length c6] W' (fun e w' => e = .returned (.bool b) ∧ Below W'.heap.size W' w') from h ▸ rrun_any W' (some ad) A6 c c6 l ys (Kd.C_below HR.out h1) HC.out.1 h2 h3 HN.out.1 (by have h4 := okI_len OKY.out; have h5 := HN.out; omega) (okI_ix OKY.out)))
        clear ey HREC
        cases h2 : (rd_T39 l k).f2 with
        | false =>
          rw [h2] at X2
          have kc := X2.out
          cases hs : stnI l ys (xs.length : Int) with
          | false =>
            replace HST := Lib.hid (fun W A6 c6 h1 h2 h3 => HST.out false W A6 c6 h1 h2 h3 hs)
            have HJ2 := Lib.hid (lea_step PK.out.1 HJ.out (lea_not (by unfold nxtI; rw [EY.out, hh, h2, hs]; rfl)))
            clear hs hh h2
            go_wp2_with (first
              | (go_at_call 54; (with_reducible refine (HH.out _ HB.out).mono ?_); rintro e_ W_ ⟨rfl, rfl⟩)
              | ((with_reducible refine gate_dst (N := 39) rfl ?_); refine Kd.R_append_rows (Kd.int .i64) (Rr := (Kd.int .i64).K wr) (w0 := W) W.heap.size rfl (.const (.slice none 0 0)) (.tmp 38) 54 3 (.int .i64 0) 8 rfl Try.underlying54 info3 rfl (by decide) (by decide) (.slice none 0 0) [] xs Ax xs.length cx (fun _ => True) (fun _ => False) rfl rfl (Kd.R_nil _ _ _ _ _) (Kd.C_below HX.out HB.out) (fun x cs h => h) (fun _ h => h.elim) (fun _ _ => trivial) HB.out HB.out.size (by have h1 := HN.out.2; simp; omega) ?_; intro v4 w4 hR hb hg hat; rw [List.nil_append] at hR; have F4 := Lib.hid hR; replace HB := Lib.hid hb; obtain ⟨A4, c4, rfl, hc4, -⟩ := Kd.R_reads hR; clear hR hb hg hat hc4)
              | ((with_reducible refine gate_dst (N := 42) rfl ?_); refine Kd.R_append_rows (Kd.int .i64) (Rr := (Kd.int .i64).K (w4.alloc (.cells #[.int .i64 k] 3))) (w0 := W) W.heap.size rfl (.tmp 39) (.tmp 41) 54 3 (.int .i64 0) 8 rfl Try.underlying54 info3 rfl (by decide) (by decide) (.slice A4 xs.length c4) xs [k] (some ⟨w4.heap.size, 0, none⟩) 1 1 (fun _ => True) (fun _ => False) rfl rfl (Kd.R_alloc F4.out _) (one_CI w4 k) (fun x cs h => h) (fun _ h => h.elim) (fun _ _ => trivial) (HB.out.alloc HB.out.size _) (by have h := HB.out.size; simp; omega) (by have h1 := HN.out.2; simp; omega) ?_; intro v6 w6 hR hb hg hat; rw [EY.out] at hR; obtain ⟨A6, c6, rfl, hc6, hC6⟩ := Kd.R_reads hR; have C6 := Lib.hid hC6; have H6 := Lib.hid hc6; replace HB := Lib.hid hb; clear hR hb hg hat hc6 hC6 F4)
              | (go_at_call 62; (with_reducible refine (HST.out _ A6 c6 HB.out C6.out H6.out).mono ?_); rintro e_ W_ ⟨rfl, hb⟩; replace C6 := Lib.hid (Kd.C_below C6.out hb); replace HB := Lib.hid (below_step HB.out hb); clear hb)
              | (fail))
            go_roundw
            case rel => exact ⟨k + 1, by first | rfl | go_num, ⟨by have := PK.out; omega, by have := PK.out; omega⟩, HJ2, HB⟩
            case measure => have := PK.out; simp [intOf]; omega
          | true =>
            replace HST := Lib.hid (fun W A6 c6 h1 h2 h3 => HST.out true W A6 c6 h1 h2 h3 hs)
            cases hu : runR l ys with
            | false =>
              replace HRU := Lib.hid (fun W A6 c6 h1 h2 h3 => HRU.out false W A6 c6 h1 h2 h3 hu)
              have HJ2 := Lib.hid (lea_step PK.out.1 HJ.out (lea_not (by unfold nxtI; rw [EY.out, hh, h2, hs, hu]; rfl)))
              clear hs hu hh h2
              go_wp2_with (first
                | (go_at_call 54; (with_reducible refine (HH.out _ HB.out).mono ?_); rintro e_ W_ ⟨rfl, rfl⟩)
                | ((with_reducible refine gate_dst (N := 39) rfl ?_); refine Kd.R_append_rows (Kd.int .i64) (Rr := (Kd.int .i64).K wr) (w0 := W) W.heap.size rfl (.const (.slice none 0 0)) (.tmp 38) 54 3 (.int .i64 0) 8 rfl Try.underlying54 info3 rfl (by decide) (by decide) (.slice none 0 0) [] xs Ax xs.length cx (fun _ => True) (fun _ => False) rfl rfl (Kd.R_nil _ _ _ _ _) (Kd.C_below HX.out HB.out) (fun x cs h => h) (fun _ h => h.elim) (fun _ _ => trivial) HB.out HB.out.size (by have h1 := HN.out.2; simp; omega) ?_; intro v4 w4 hR hb hg hat; rw [List.nil_append] at hR; have F4 := Lib.hid hR; replace HB := Lib.hid hb; obtain ⟨A4, c4, rfl, hc4, -⟩ := Kd.R_reads hR; clear hR hb hg hat hc4)
                | ((with_reducible refine gate_dst (N := 42) rfl ?_); refine Kd.R_append_rows (Kd.int .i64) (Rr := (Kd.int .i64).K (w4.alloc (.cells #[.int .i64 k] 3))) (w0 := W) W.heap.size rfl (.tmp 39) (.tmp 41) 54 3 (.int .i64 0) 8 rfl Try.underlying54 info3 rfl (by decide) (by decide) (.slice A4 xs.length c4) xs [k] (some ⟨w4.heap.size, 0, none⟩) 1 1 (fun _ => True) (fun _ => False) rfl rfl (Kd.R_alloc F4.out _) (one_CI w4 k) (fun x cs h => h) (fun _ h => h.elim) (fun _ _ => trivial) (HB.out.alloc HB.out.size _) (by have h := HB.out.size; simp; omega) (by have h1 := HN.out.2; simp; omega) ?_; intro v6 w6 hR hb hg hat; rw [EY.out] at hR; obtain ⟨A6, c6, rfl, hc6, hC6⟩ := Kd.R_reads hR; have C6 := Lib.hid hC6; have H6 := Lib.hid hc6; replace HB := Lib.hid hb; clear hR hb hg hat hc6 hC6 F4)
                | (go_at_call 62; (with_reducible refine (HST.out _ A6 c6 HB.out C6.out H6.out).mono ?_); rintro e_ W_ ⟨rfl, hb⟩; replace C6 := Lib.hid (Kd.C_below C6.out hb); replace HB := Lib.hid (below_step HB.out hb); clear hb)
                | (go_at_call 63; (with_reducible refine (HRU.out _ A6 c6 HB.out C6.out H6.out).mono ?_); rintro e_ W_ ⟨rfl, hb⟩; replace C6 := Lib.hid (Kd.C_below C6.out hb); replace HB := Lib.hid (below_step HB.out hb); clear hb)
                | (fail))
              go_roundw
              case rel => exact ⟨k + 1, by first | rfl | go_num, ⟨by have := PK.out; omega, by have := PK.out; omega⟩, HJ2, HB⟩
              case measure => have := PK.out; simp [intOf]; omega
            | true =>
              replace HRU := Lib.hid (fun W A6 c6 h1 h2 h3 => HRU.out true W A6 c6 h1 h2 h3 hu)
              have HLE := Lib.hid (show leaT l f xs k = leaF l f ys by rw [lea_yes (by unfold nxtI; rw [EY.out, hh, h2, hs, hu]; rfl), EY.out])
              clear hs hu hh h2
              cases hg : leaF l f ys with
              | none =>
                have HG := Lib.hid hg
                have HJ2 := Lib.hid (lea_step PK.out.1 HJ.out (HLE.out.trans hg))
                clear hg HLE
                go_wp2_with (first
                  | (go_at_call 54; (with_reducible refine (HH.out _ HB.out).mono ?_); rintro e_ W_ ⟨rfl, rfl⟩)
                  | ((with_reducible refine gate_dst (N := 39) rfl ?_); refine Kd.R_append_rows (Kd.int .i64) (Rr := (Kd.int .i64).K wr) (w0 := W) W.heap.size rfl (.const (.slice none 0 0)) (.tmp 38) 54 3 (.int .i64 0) 8 rfl Try.underlying54 info3 rfl (by decide) (by decide) (.slice none 0 0) [] xs Ax xs.length cx (fun _ => True) (fun _ => False) rfl rfl (Kd.R_nil _ _ _ _ _) (Kd.C_below HX.out HB.out) (fun x cs h => h) (fun _ h => h.elim) (fun _ _ => trivial) HB.out HB.out.size (by have h1 := HN.out.2; simp; omega) ?_; intro v4 w4 hR hb hg hat; rw [List.nil_append] at hR; have F4 := Lib.hid hR; replace HB := Lib.hid hb; obtain ⟨A4, c4, rfl, hc4, -⟩ := Kd.R_reads hR; clear hR hb hg hat hc4)
                  | ((with_reducible refine gate_dst (N := 42) rfl ?_); refine Kd.R_append_rows (Kd.int .i64) (Rr := (Kd.int .i64).K (w4.alloc (.cells #[.int .i64 k] 3))) (w0 := W) W.heap.size rfl (.tmp 39) (.tmp 41) 54 3 (.int .i64 0) 8 rfl Try.underlying54 info3 rfl (by decide) (by decide) (.slice A4 xs.length c4) xs [k] (some ⟨w4.heap.size, 0, none⟩) 1 1 (fun _ => True) (fun _ => False) rfl rfl (Kd.R_alloc F4.out _) (one_CI w4 k) (fun x cs h => h) (fun _ h => h.elim) (fun _ _ => trivial) (HB.out.alloc HB.out.size _) (by have h := HB.out.size; simp; omega) (by have h1 := HN.out.2; simp; omega) ?_; intro v6 w6 hR hb hg hat; rw [EY.out] at hR; obtain ⟨A6, c6, rfl, hc6, hC6⟩ := Kd.R_reads hR; have C6 := Lib.hid hC6; have H6 := Lib.hid hc6; replace HB := Lib.hid hb; clear hR hb hg hat hc6 hC6 F4)
                  | (go_at_call 62; (with_reducible refine (HST.out _ A6 c6 HB.out C6.out H6.out).mono ?_); rintro e_ W_ ⟨rfl, hb⟩; replace C6 := Lib.hid (Kd.C_below C6.out hb); replace HB := Lib.hid (below_step HB.out hb); clear hb)
                  | (go_at_call 63; (with_reducible refine (HRU.out _ A6 c6 HB.out C6.out H6.out).mono ?_); rintro e_ W_ ⟨rfl, hb⟩; replace C6 := Lib.hid (Kd.C_below C6.out hb); replace HB := Lib.hid (below_step HB.out hb); clear hb)
                  | (go_at_call 57; (with_reducible refine (HRE.out _ A6 c6 HB.out C6.out H6.out).mono ?_); rintro e_ W_ h_; obtain ⟨A7, c7, rfl, hc7, hC7, hb⟩ := lea_use HG.out h_; have C7 := Lib.hid hC7; have H7 := Lib.hid hc7; replace HB := Lib.hid (below_step HB.out hb); clear hb h_ hc7 hC7)
                  | (fail))
                go_roundw
                case rel => exact ⟨k + 1, by first | rfl | go_num, ⟨by have := PK.out; omega, by have := PK.out; omega⟩, HJ2, HB⟩
                case measure => have := PK.out; simp [intOf]; omega
              | some r =>
                have HG := Lib.hid hg
                have HE := Lib.hid (lea_some HNW.out PK.out.1 PK.out.2 HJ.out (HLE.out.trans hg))
                clear hg HLE
                go_wp2_with (first
                  | (go_at_call 54; (with_reducible refine (HH.out _ HB.out).mono ?_); rintro e_ W_ ⟨rfl, rfl⟩)
                  | ((with_reducible refine gate_dst (N := 39) rfl ?_); refine Kd.R_append_rows (Kd.int .i64) (Rr := (Kd.int .i64).K wr) (w0 := W) W.heap.size rfl (.const (.slice none 0 0)) (.tmp 38) 54 3 (.int .i64 0) 8 rfl Try.underlying54 info3 rfl (by decide) (by decide) (.slice none 0 0) [] xs Ax xs.length cx (fun _ => True) (fun _ => False) rfl rfl (Kd.R_nil _ _ _ _ _) (Kd.C_below HX.out HB.out) (fun x cs h => h) (fun _ h => h.elim) (fun _ _ => trivial) HB.out HB.out.size (by have h1 := HN.out.2; simp; omega) ?_; intro v4 w4 hR hb hg hat; rw [List.nil_append] at hR; have F4 := Lib.hid hR; replace HB := Lib.hid hb; obtain ⟨A4, c4, rfl, hc4, -⟩ := Kd.R_reads hR; clear hR hb hg hat hc4)
                  | ((with_reducible refine gate_dst (N := 42) rfl ?_); refine Kd.R_append_rows (Kd.int .i64) (Rr := (Kd.int .i64).K (w4.alloc (.cells #[.int .i64 k] 3))) (w0 := W) W.heap.size rfl (.tmp 39) (.tmp 41) 54 3 (.int .i64 0) 8 rfl Try.underlying54 info3 rfl (by decide) (by decide) (.slice A4 xs.length c4) xs [k] (some ⟨w4.heap.size, 0, none⟩) 1 1 (fun _ => True) (fun _ => False) rfl rfl (Kd.R_alloc F4.out _) (one_CI w4 k) (fun x cs h => h) (fun _ h => h.elim) (fun _ _ => trivial) (HB.out.alloc HB.out.size _) (by have h := HB.out.size; simp; omega) (by have h1 := HN.out.2; simp; omega) ?_; intro v6 w6 hR hb hg hat; rw [EY.out] at hR; obtain ⟨A6, c6, rfl, hc6, hC6⟩ := Kd.R_reads hR; have C6 := Lib.hid hC6; have H6 := Lib.hid hc6; replace HB := Lib.hid hb; clear hR hb hg hat hc6 hC6 F4)
                  | (go_at_call 62; (with_reducible refine (HST.out _ A6 c6 HB.out C6.out H6.out).mono ?_); rintro e_ W_ ⟨rfl, hb⟩; replace C6 := Lib.hid (Kd.C_below C6.out hb); replace HB := Lib.hid (below_step HB.out hb); clear hb)
                  | (go_at_call 63; (with_reducible refine (HRU.out _ A6 c6 HB.out C6.out H6.out).mono ?_); rintro e_ W_ ⟨rfl, hb⟩; replace C6 := Lib.hid (Kd.C_below C6.out hb); replace HB := Lib.hid (below_step HB.out hb); clear hb)
                  | (go_at_call 57; (with_reducible refine (HRE.out _ A6 c6 HB.out C6.out H6.out).mono ?_); rintro e_ W_ h_; obtain ⟨A7, c7, rfl, hc7, hC7, hb⟩ := lea_use HG.out h_; have C7 := Lib.hid hC7; have H7 := Lib.hid hc7; replace HB := Lib.hid (below_step HB.out hb); clear hb h_ hc7 hC7)
                  | (fail))
                go_ret2
                exact lea_to HE.out H7.out C7.out HB.out
        | true =>
          rw [h2] at X2
          have kc := X2.out
          cases ha : ansB (rd_T39 l k) with
          | false =>
            have HA := Lib.hid (fun W => ranswered_ag (rd_T39 l k) false ha W)
            have HJ2 := Lib.hid (lea_step PK.out.1 HJ.out (lea_not (by unfold nxtI; rw [hh, h2, ha]; rfl)))
            clear hh ha h2 HST HRU HRE
            go_wp2_with (first
              | (go_at_call 54; (with_reducible refine (HH.out _ HB.out).mono ?_); rintro e_ W_ ⟨rfl, rfl⟩)
              | ((with_reducible refine gate_dst (N := 33) rfl ?_); (try (refine gate_guard (by rfl) ?_; dsimp only)); refine wpList_load_p rfl 39 (.tmp 32) rfl (ad.add (k.toNat * 16)) rfl [.int .i64 (rd_T39 l k).f0, .int .i64 (rd_T39 l k).f1, .bool (rd_T39 l k).f2, .string (rd_T39 l k).f3, .int .i64 (rd_T39 l k).f4.f0, .string (rd_T39 l k).f4.f1, .string (rd_T39 l k).f4.f2, .int .i64 (rd_T39 l k).f4.f3, .int .i64 (rd_T39 l k).f5, .int .i64 (rd_T39 l k).f6, .int .i64 (rd_T39 l k).f7.f0, .int .i64 (rd_T39 l k).f7.f1, .string (rd_T39 l k).f8.f0, .string (rd_T39 l k).f8.f1, .int .i64 (rd_T39 l k).f8.f2, .bool (rd_T39 l k).f9] _ (row39' (Kd.C_below HR.out HB.out) k PK.out.1 PK.out.2) Try.underlying39 rfl (by kernel_rfl) ?_)
              | (go_at_call 44; (with_reducible refine (HA.out _).mono ?_); rintro e_ W_ ⟨rfl, hb⟩; replace HB := Lib.hid (below_step HB.out hb); clear hb)
              | (fail))
            go_roundw
            case rel => exact ⟨k + 1, by first | rfl | go_num, ⟨by have := PK.out; omega, by have := PK.out; omega⟩, HJ2, HB⟩
            case measure => have := PK.out; simp [intOf]; omega
          | true =>
            have HA := Lib.hid (fun W => ranswered_ag (rd_T39 l k) true ha W)
            cases hs : stnI l ys (xs.length : Int) with
            | false =>
              replace HST := Lib.hid (fun W A6 c6 h1 h2 h3 => HST.out false W A6 c6 h1 h2 h3 hs)
              have HJ2 := Lib.hid (lea_step PK.out.1 HJ.out (lea_not (by unfold nxtI; rw [EY.out, hh, h2, ha, hs]; rfl)))
              clear hs hh ha h2
              go_wp2_with (first
                | (go_at_call 54; (with_reducible refine (HH.out _ HB.out).mono ?_); rintro e_ W_ ⟨rfl, rfl⟩)
                | ((with_reducible refine gate_dst (N := 33) rfl ?_); (try (refine gate_guard (by rfl) ?_; dsimp only)); refine wpList_load_p rfl 39 (.tmp 32) rfl (ad.add (k.toNat * 16)) rfl [.int .i64 (rd_T39 l k).f0, .int .i64 (rd_T39 l k).f1, .bool (rd_T39 l k).f2, .string (rd_T39 l k).f3, .int .i64 (rd_T39 l k).f4.f0, .string (rd_T39 l k).f4.f1, .string (rd_T39 l k).f4.f2, .int .i64 (rd_T39 l k).f4.f3, .int .i64 (rd_T39 l k).f5, .int .i64 (rd_T39 l k).f6, .int .i64 (rd_T39 l k).f7.f0, .int .i64 (rd_T39 l k).f7.f1, .string (rd_T39 l k).f8.f0, .string (rd_T39 l k).f8.f1, .int .i64 (rd_T39 l k).f8.f2, .bool (rd_T39 l k).f9] _ (row39' (Kd.C_below HR.out HB.out) k PK.out.1 PK.out.2) Try.underlying39 rfl (by kernel_rfl) ?_)
                | (go_at_call 44; (with_reducible refine (HA.out _).mono ?_); rintro e_ W_ ⟨rfl, hb⟩; replace HB := Lib.hid (below_step HB.out hb); clear hb)
                | ((with_reducible refine gate_dst (N := 39) rfl ?_); refine Kd.R_append_rows (Kd.int .i64) (Rr := (Kd.int .i64).K wr) (w0 := W) W.heap.size rfl (.const (.slice none 0 0)) (.tmp 38) 54 3 (.int .i64 0) 8 rfl Try.underlying54 info3 rfl (by decide) (by decide) (.slice none 0 0) [] xs Ax xs.length cx (fun _ => True) (fun _ => False) rfl rfl (Kd.R_nil _ _ _ _ _) (Kd.C_below HX.out HB.out) (fun x cs h => h) (fun _ h => h.elim) (fun _ _ => trivial) HB.out HB.out.size (by have h1 := HN.out.2; simp; omega) ?_; intro v4 w4 hR hb hg hat; rw [List.nil_append] at hR; have F4 := Lib.hid hR; replace HB := Lib.hid hb; obtain ⟨A4, c4, rfl, hc4, -⟩ := Kd.R_reads hR; clear hR hb hg hat hc4)
                | ((with_reducible refine gate_dst (N := 42) rfl ?_); refine Kd.R_append_rows (Kd.int .i64) (Rr := (Kd.int .i64).K (w4.alloc (.cells #[.int .i64 k] 3))) (w0 := W) W.heap.size rfl (.tmp 39) (.tmp 41) 54 3 (.int .i64 0) 8 rfl Try.underlying54 info3 rfl (by decide) (by decide) (.slice A4 xs.length c4) xs [k] (some ⟨w4.heap.size, 0, none⟩) 1 1 (fun _ => True) (fun _ => False) rfl rfl (Kd.R_alloc F4.out _) (one_CI w4 k) (fun x cs h => h) (fun _ h => h.elim) (fun _ _ => trivial) (HB.out.alloc HB.out.size _) (by have h := HB.out.size; simp; omega) (by have h1 := HN.out.2; simp; omega) ?_; intro v6 w6 hR hb hg hat; rw [EY.out] at hR; obtain ⟨A6, c6, rfl, hc6, hC6⟩ := Kd.R_reads hR; have C6 := Lib.hid hC6; have H6 := Lib.hid hc6; replace HB := Lib.hid hb; clear hR hb hg hat hc6 hC6 F4)
                | (go_at_call 62; (with_reducible refine (HST.out _ A6 c6 HB.out C6.out H6.out).mono ?_); rintro e_ W_ ⟨rfl, hb⟩; replace C6 := Lib.hid (Kd.C_below C6.out hb); replace HB := Lib.hid (below_step HB.out hb); clear hb)
                | (fail))
              go_roundw
              case rel => exact ⟨k + 1, by first | rfl | go_num, ⟨by have := PK.out; omega, by have := PK.out; omega⟩, HJ2, HB⟩
              case measure => have := PK.out; simp [intOf]; omega
            | true =>
              replace HST := Lib.hid (fun W A6 c6 h1 h2 h3 => HST.out true W A6 c6 h1 h2 h3 hs)
              cases hu : runR l ys with
              | false =>
                replace HRU := Lib.hid (fun W A6 c6 h1 h2 h3 => HRU.out false W A6 c6 h1 h2 h3 hu)
                have HJ2 := Lib.hid (lea_step PK.out.1 HJ.out (lea_not (by unfold nxtI; rw [EY.out, hh, h2, ha, hs, hu]; rfl)))
                clear hs hu hh ha h2
                go_wp2_with (first
                  | (go_at_call 54; (with_reducible refine (HH.out _ HB.out).mono ?_); rintro e_ W_ ⟨rfl, rfl⟩)
                  | ((with_reducible refine gate_dst (N := 33) rfl ?_); (try (refine gate_guard (by rfl) ?_; dsimp only)); refine wpList_load_p rfl 39 (.tmp 32) rfl (ad.add (k.toNat * 16)) rfl [.int .i64 (rd_T39 l k).f0, .int .i64 (rd_T39 l k).f1, .bool (rd_T39 l k).f2, .string (rd_T39 l k).f3, .int .i64 (rd_T39 l k).f4.f0, .string (rd_T39 l k).f4.f1, .string (rd_T39 l k).f4.f2, .int .i64 (rd_T39 l k).f4.f3, .int .i64 (rd_T39 l k).f5, .int .i64 (rd_T39 l k).f6, .int .i64 (rd_T39 l k).f7.f0, .int .i64 (rd_T39 l k).f7.f1, .string (rd_T39 l k).f8.f0, .string (rd_T39 l k).f8.f1, .int .i64 (rd_T39 l k).f8.f2, .bool (rd_T39 l k).f9] _ (row39' (Kd.C_below HR.out HB.out) k PK.out.1 PK.out.2) Try.underlying39 rfl (by kernel_rfl) ?_)
                  | (go_at_call 44; (with_reducible refine (HA.out _).mono ?_); rintro e_ W_ ⟨rfl, hb⟩; replace HB := Lib.hid (below_step HB.out hb); clear hb)
                  | ((with_reducible refine gate_dst (N := 39) rfl ?_); refine Kd.R_append_rows (Kd.int .i64) (Rr := (Kd.int .i64).K wr) (w0 := W) W.heap.size rfl (.const (.slice none 0 0)) (.tmp 38) 54 3 (.int .i64 0) 8 rfl Try.underlying54 info3 rfl (by decide) (by decide) (.slice none 0 0) [] xs Ax xs.length cx (fun _ => True) (fun _ => False) rfl rfl (Kd.R_nil _ _ _ _ _) (Kd.C_below HX.out HB.out) (fun x cs h => h) (fun _ h => h.elim) (fun _ _ => trivial) HB.out HB.out.size (by have h1 := HN.out.2; simp; omega) ?_; intro v4 w4 hR hb hg hat; rw [List.nil_append] at hR; have F4 := Lib.hid hR; replace HB := Lib.hid hb; obtain ⟨A4, c4, rfl, hc4, -⟩ := Kd.R_reads hR; clear hR hb hg hat hc4)
                  | ((with_reducible refine gate_dst (N := 42) rfl ?_); refine Kd.R_append_rows (Kd.int .i64) (Rr := (Kd.int .i64).K (w4.alloc (.cells #[.int .i64 k] 3))) (w0 := W) W.heap.size rfl (.tmp 39) (.tmp 41) 54 3 (.int .i64 0) 8 rfl Try.underlying54 info3 rfl (by decide) (by decide) (.slice A4 xs.length c4) xs [k] (some ⟨w4.heap.size, 0, none⟩) 1 1 (fun _ => True) (fun _ => False) rfl rfl (Kd.R_alloc F4.out _) (one_CI w4 k) (fun x cs h => h) (fun _ h => h.elim) (fun _ _ => trivial) (HB.out.alloc HB.out.size _) (by have h := HB.out.size; simp; omega) (by have h1 := HN.out.2; simp; omega) ?_; intro v6 w6 hR hb hg hat; rw [EY.out] at hR; obtain ⟨A6, c6, rfl, hc6, hC6⟩ := Kd.R_reads hR; have C6 := Lib.hid hC6; have H6 := Lib.hid hc6; replace HB := Lib.hid hb; clear hR hb hg hat hc6 hC6 F4)
                  | (go_at_call 62; (with_reducible refine (HST.out _ A6 c6 HB.out C6.out H6.out).mono ?_); rintro e_ W_ ⟨rfl, hb⟩; replace C6 := Lib.hid (Kd.C_below C6.out hb); replace HB := Lib.hid (below_step HB.out hb); clear hb)
                  | (go_at_call 63; (with_reducible refine (HRU.out _ A6 c6 HB.out C6.out H6.out).mono ?_); rintro e_ W_ ⟨rfl, hb⟩; replace C6 := Lib.hid (Kd.C_below C6.out hb); replace HB := Lib.hid (below_step HB.out hb); clear hb)
                  | (fail))
                go_roundw
                case rel => exact ⟨k + 1, by first | rfl | go_num, ⟨by have := PK.out; omega, by have := PK.out; omega⟩, HJ2, HB⟩
                case measure => have := PK.out; simp [intOf]; omega
              | true =>
                replace HRU := Lib.hid (fun W A6 c6 h1 h2 h3 => HRU.out true W A6 c6 h1 h2 h3 hu)
                have HLE := Lib.hid (show leaT l f xs k = leaF l f ys by rw [lea_yes (by unfold nxtI; rw [EY.out, hh, h2, ha, hs, hu]; rfl), EY.out])
                clear hs hu hh ha h2
                cases hg : leaF l f ys with
                | none =>
                  have HG := Lib.hid hg
                  have HJ2 := Lib.hid (lea_step PK.out.1 HJ.out (HLE.out.trans hg))
                  clear hg HLE
                  go_wp2_with (first
                    | (go_at_call 54; (with_reducible refine (HH.out _ HB.out).mono ?_); rintro e_ W_ ⟨rfl, rfl⟩)
                    | ((with_reducible refine gate_dst (N := 33) rfl ?_); (try (refine gate_guard (by rfl) ?_; dsimp only)); refine wpList_load_p rfl 39 (.tmp 32) rfl (ad.add (k.toNat * 16)) rfl [.int .i64 (rd_T39 l k).f0, .int .i64 (rd_T39 l k).f1, .bool (rd_T39 l k).f2, .string (rd_T39 l k).f3, .int .i64 (rd_T39 l k).f4.f0, .string (rd_T39 l k).f4.f1, .string (rd_T39 l k).f4.f2, .int .i64 (rd_T39 l k).f4.f3, .int .i64 (rd_T39 l k).f5, .int .i64 (rd_T39 l k).f6, .int .i64 (rd_T39 l k).f7.f0, .int .i64 (rd_T39 l k).f7.f1, .string (rd_T39 l k).f8.f0, .string (rd_T39 l k).f8.f1, .int .i64 (rd_T39 l k).f8.f2, .bool (rd_T39 l k).f9] _ (row39' (Kd.C_below HR.out HB.out) k PK.out.1 PK.out.2) Try.underlying39 rfl (by kernel_rfl) ?_)
                    | (go_at_call 44; (with_reducible refine (HA.out _).mono ?_); rintro e_ W_ ⟨rfl, hb⟩; replace HB := Lib.hid (below_step HB.out hb); clear hb)
                    | ((with_reducible refine gate_dst (N := 39) rfl ?_); refine Kd.R_append_rows (Kd.int .i64) (Rr := (Kd.int .i64).K wr) (w0 := W) W.heap.size rfl (.const (.slice none 0 0)) (.tmp 38) 54 3 (.int .i64 0) 8 rfl Try.underlying54 info3 rfl (by decide) (by decide) (.slice none 0 0) [] xs Ax xs.length cx (fun _ => True) (fun _ => False) rfl rfl (Kd.R_nil _ _ _ _ _) (Kd.C_below HX.out HB.out) (fun x cs h => h) (fun _ h => h.elim) (fun _ _ => trivial) HB.out HB.out.size (by have h1 := HN.out.2; simp; omega) ?_; intro v4 w4 hR hb hg hat; rw [List.nil_append] at hR; have F4 := Lib.hid hR; replace HB := Lib.hid hb; obtain ⟨A4, c4, rfl, hc4, -⟩ := Kd.R_reads hR; clear hR hb hg hat hc4)
                    | ((with_reducible refine gate_dst (N := 42) rfl ?_); refine Kd.R_append_rows (Kd.int .i64) (Rr := (Kd.int .i64).K (w4.alloc (.cells #[.int .i64 k] 3))) (w0 := W) W.heap.size rfl (.tmp 39) (.tmp 41) 54 3 (.int .i64 0) 8 rfl Try.underlying54 info3 rfl (by decide) (by decide) (.slice A4 xs.length c4) xs [k] (some ⟨w4.heap.size, 0, none⟩) 1 1 (fun _ => True) (fun _ => False) rfl rfl (Kd.R_alloc F4.out _) (one_CI w4 k) (fun x cs h => h) (fun _ h => h.elim) (fun _ _ => trivial) (HB.out.alloc HB.out.size _) (by have h := HB.out.size; simp; omega) (by have h1 := HN.out.2; simp; omega) ?_; intro v6 w6 hR hb hg hat; rw [EY.out] at hR; obtain ⟨A6, c6, rfl, hc6, hC6⟩ := Kd.R_reads hR; have C6 := Lib.hid hC6; have H6 := Lib.hid hc6; replace HB := Lib.hid hb; clear hR hb hg hat hc6 hC6 F4)
                    | (go_at_call 62; (with_reducible refine (HST.out _ A6 c6 HB.out C6.out H6.out).mono ?_); rintro e_ W_ ⟨rfl, hb⟩; replace C6 := Lib.hid (Kd.C_below C6.out hb); replace HB := Lib.hid (below_step HB.out hb); clear hb)
                    | (go_at_call 63; (with_reducible refine (HRU.out _ A6 c6 HB.out C6.out H6.out).mono ?_); rintro e_ W_ ⟨rfl, hb⟩; replace C6 := Lib.hid (Kd.C_below C6.out hb); replace HB := Lib.hid (below_step HB.out hb); clear hb)
                    | (go_at_call 57; (with_reducible refine (HRE.out _ A6 c6 HB.out C6.out H6.out).mono ?_); rintro e_ W_ h_; obtain ⟨A7, c7, rfl, hc7, hC7, hb⟩ := lea_use HG.out h_; have C7 := Lib.hid hC7; have H7 := Lib.hid hc7; replace HB := Lib.hid (below_step HB.out hb); clear hb h_ hc7 hC7)
                    | (fail))
                  go_roundw
                  case rel => exact ⟨k + 1, by first | rfl | go_num, ⟨by have := PK.out; omega, by have := PK.out; omega⟩, HJ2, HB⟩
                  case measure => have := PK.out; simp [intOf]; omega
                | some r =>
                  have HG := Lib.hid hg
                  have HE := Lib.hid (lea_some HNW.out PK.out.1 PK.out.2 HJ.out (HLE.out.trans hg))
                  clear hg HLE
                  go_wp2_with (first
                    | (go_at_call 54; (with_reducible refine (HH.out _ HB.out).mono ?_); rintro e_ W_ ⟨rfl, rfl⟩)
                    | ((with_reducible refine gate_dst (N := 33) rfl ?_); (try (refine gate_guard (by rfl) ?_; dsimp only)); refine wpList_load_p rfl 39 (.tmp 32) rfl (ad.add (k.toNat * 16)) rfl [.int .i64 (rd_T39 l k).f0, .int .i64 (rd_T39 l k).f1, .bool (rd_T39 l k).f2, .string (rd_T39 l k).f3, .int .i64 (rd_T39 l k).f4.f0, .string (rd_T39 l k).f4.f1, .string (rd_T39 l k).f4.f2, .int .i64 (rd_T39 l k).f4.f3, .int .i64 (rd_T39 l k).f5, .int .i64 (rd_T39 l k).f6, .int .i64 (rd_T39 l k).f7.f0, .int .i64 (rd_T39 l k).f7.f1, .string (rd_T39 l k).f8.f0, .string (rd_T39 l k).f8.f1, .int .i64 (rd_T39 l k).f8.f2, .bool (rd_T39 l k).f9] _ (row39' (Kd.C_below HR.out HB.out) k PK.out.1 PK.out.2) Try.underlying39 rfl (by kernel_rfl) ?_)
                    | (go_at_call 44; (with_reducible refine (HA.out _).mono ?_); rintro e_ W_ ⟨rfl, hb⟩; replace HB := Lib.hid (below_step HB.out hb); clear hb)
                    | ((with_reducible refine gate_dst (N := 39) rfl ?_); refine Kd.R_append_rows (Kd.int .i64) (Rr := (Kd.int .i64).K wr) (w0 := W) W.heap.size rfl (.const (.slice none 0 0)) (.tmp 38) 54 3 (.int .i64 0) 8 rfl Try.underlying54 info3 rfl (by decide) (by decide) (.slice none 0 0) [] xs Ax xs.length cx (fun _ => True) (fun _ => False) rfl rfl (Kd.R_nil _ _ _ _ _) (Kd.C_below HX.out HB.out) (fun x cs h => h) (fun _ h => h.elim) (fun _ _ => trivial) HB.out HB.out.size (by have h1 := HN.out.2; simp; omega) ?_; intro v4 w4 hR hb hg hat; rw [List.nil_append] at hR; have F4 := Lib.hid hR; replace HB := Lib.hid hb; obtain ⟨A4, c4, rfl, hc4, -⟩ := Kd.R_reads hR; clear hR hb hg hat hc4)
                    | ((with_reducible refine gate_dst (N := 42) rfl ?_); refine Kd.R_append_rows (Kd.int .i64) (Rr := (Kd.int .i64).K (w4.alloc (.cells #[.int .i64 k] 3))) (w0 := W) W.heap.size rfl (.tmp 39) (.tmp 41) 54 3 (.int .i64 0) 8 rfl Try.underlying54 info3 rfl (by decide) (by decide) (.slice A4 xs.length c4) xs [k] (some ⟨w4.heap.size, 0, none⟩) 1 1 (fun _ => True) (fun _ => False) rfl rfl (Kd.R_alloc F4.out _) (one_CI w4 k) (fun x cs h => h) (fun _ h => h.elim) (fun _ _ => trivial) (HB.out.alloc HB.out.size _) (by have h := HB.out.size; simp; omega) (by have h1 := HN.out.2; simp; omega) ?_; intro v6 w6 hR hb hg hat; rw [EY.out] at hR; obtain ⟨A6, c6, rfl, hc6, hC6⟩ := Kd.R_reads hR; have C6 := Lib.hid hC6; have H6 := Lib.hid hc6; replace HB := Lib.hid hb; clear hR hb hg hat hc6 hC6 F4)
                    | (go_at_call 62; (with_reducible refine (HST.out _ A6 c6 HB.out C6.out H6.out).mono ?_); rintro e_ W_ ⟨rfl, hb⟩; replace C6 := Lib.hid (Kd.C_below C6.out hb); replace HB := Lib.hid (below_step HB.out hb); clear hb)
                    | (go_at_call 63; (with_reducible refine (HRU.out _ A6 c6 HB.out C6.out H6.out).mono ?_); rintro e_ W_ ⟨rfl, hb⟩; replace C6 := Lib.hid (Kd.C_below C6.out hb); replace HB := Lib.hid (below_step HB.out hb); clear hb)
                    | (go_at_call 57; (with_reducible refine (HRE.out _ A6 c6 HB.out C6.out H6.out).mono ?_); rintro e_ W_ h_; obtain ⟨A7, c7, rfl, hc7, hC7, hb⟩ := lea_use HG.out h_; have C7 := Lib.hid hC7; have H7 := Lib.hid hc7; replace HB := Lib.hid (below_step HB.out hb); clear hb h_ hc7 hC7)
                    | (fail))
                  go_ret2
                  exact lea_to HE.out H7.out C7.out HB.out
    · have hnl : decide (k < (l.length : Int)) = false := decide_eq_false hlt
      have ek : k = (l.length : Int) := by omega
      subst ek
      have HE := Lib.hid (lea_none HNW.out HJ.out)
      clear k0 k1 hlt
      go_wp2_with (first
        | (fail))
      go_ret2
      exact lea_to0 HE.out HB.out
theorem least_any (w : World) (A : Option Addr) (c : Nat) (l : List S39) (hr : Kd.C k39 w A l.length l) (hc : l.length ≤ c) (hn : l.length ≤ 1000000000000) : ∀ f, LeaH w A c l f := by
  intro f
  induction f with
  | zero =>
    intro xs W Ax cx hB hx hcx hok hlf
    exact least_whole w A c l hr hc hn 0 xs W Ax cx hB hx hcx hok (okI_whole hok (by omega))
  | succ f ih =>
    intro xs W Ax cx hB hx hcx hok hlf
    cases hw : whlI l xs with
    | true => exact least_whole w A c l hr hc hn (f + 1) xs W Ax cx hB hx hcx hok hw
    | false => exact least_step w A c l hr hc hn f ih xs W Ax cx hB hx hcx hok hlf hw
theorem find_congr {α β : Type} {f g : α → Option β} : ∀ (l : List α), (∀ k ∈ l, f k = g k) → l.findSome? f = l.findSome? g := by
  intro l
  induction l with
  | nil => intro _; rfl
  | cons a t ih =>
    intro h
    rw [List.findSome?_cons, List.findSome?_cons, h a (by simp), ih (fun k hk => h k (by simp [hk]))]
theorem find_map {α β γ : Type} {f : α → Option β} (g : β → γ) : ∀ (l : List α), l.findSome? (fun k => (f k).map g) = (l.findSome? f).map g := by
  intro l
  induction l with
  | nil => rfl
  | cons a t ih =>
    rw [List.findSome?_cons, List.findSome?_cons]
    cases h : f a with
    | none => exact ih
    | some b => rfl
theorem of_back {xs : List Int} (h : ∀ x ∈ xs, 0 ≤ x) : (xs.map Int.toNat).map Int.ofNat = xs := by
  rw [List.map_map]
  exact (List.map_congr_left (fun x hx => by have := h x hx; show Int.ofNat x.toNat = x; exact Int.toNat_of_nonneg this)).trans (List.map_id xs)
/-- Both searches find the same. -/
theorem lea_go {l : List S39} (hm : ∀ i, i < l.length → mayB (cl l i) = true) (hn : l.length ≤ 1000000000000) : ∀ (f : Nat) (xs : List Int) (κ : KF) (ks : List SS), OkI l xs → runO (xs.map (rd_T39 l)) [] = some ks → (∀ q, RelS xs.length (κ q) (lookS q ks)) →
    leaF l f xs = (goF l f (xs.map Int.toNat) κ).map (fun o => o.map Int.ofNat) := by
  intro f
  induction f with
  | zero =>
    intro xs κ ks hok _ _
    have hp : ∀ x ∈ xs, 0 ≤ x := fun x hx => (hok.2 x hx).1
    rw [leaF, goF, whl_whl hp]
    split
    · rw [Option.map_some, of_back hp]
    · rfl
  | succ f ih =>
    intro xs κ ks hok hr hrel
    have hp : ∀ x ∈ xs, 0 ≤ x := fun x hx => (hok.2 x hx).1
    rw [leaF, goF, whl_whl hp]
    by_cases hw : whlB l (xs.map Int.toNat) = true
    · rw [if_pos hw, if_pos hw, Option.map_some, of_back hp]
    · rw [if_neg hw, if_neg hw, ← find_map]
      refine find_congr _ fun k hk => ?_
      have hkl := List.mem_range.mp hk
      have ecl : rd_T39 l (k : Int) = cl l k := rfl
      have hst := stp_rel (n := xs.length) (by have := okI_len hok; omega) (κ := κ) (ks := ks) (c := cl l k) (hm k hkl) hrel
      have hrun : runR l (xs ++ [(k : Int)]) = (stpS ks (cl l k)).isSome := by
        unfold runR
        rw [run_o, List.map_append, List.map_cons, List.map_nil, runO_snoc, hr, ecl]
      have hky : kyF l k = (cl l k).f3.toList := rfl
      have hh : hasI xs (k : Int) = (xs.map Int.toNat).contains k := by
        rw [okI_has hok (by omega), Int.toNat_natCast]
      cases hc : hasI xs (k : Int) with
      | true =>
        have h1 : nxtI l xs (k : Int) = false := by unfold nxtI; rw [hc]; rfl
        have h2 : nxtB l (xs.map Int.toNat) k = false := by unfold nxtB; rw [← hh, hc]; rfl
        rw [h1, h2]
        rfl
      | false =>
        have hok2 := okI_snoc hok (by omega : (0 : Int) ≤ (k : Int)) (by omega) hc
        have hs : stnI l (xs ++ [(k : Int)]) (xs.length : Int) = rdyB l (xs.map Int.toNat) k := by
          rw [rdy_stn (fun x hx => (hok2.2 x hx).1), List.take_left' rfl, ix_last, Int.toNat_natCast]
        unfold nxtI nxtB
        rw [hs, hrun, ← hh, hc, ecl]
        cases hb : ((cl l k).f2 && !ansB (cl l k)) with
        | true => rfl
        | false =>
          cases hd : rdyB l (xs.map Int.toNat) k with
          | false => rfl
          | true =>
            cases hp2 : stpS ks (cl l k) with
            | none =>
              rw [hp2] at hst
              rw [hky, hst]
              rfl
            | some k2 =>
              rw [hp2] at hst
              obtain ⟨ha, hb2⟩ := hst
              rw [hky, ha]
              have hih := ih (xs ++ [(k : Int)]) (updK κ (cl l k).f3.toList (hapF (κ (cl l k).f3.toList) (cl l k)).1) k2 hok2 (by rw [List.map_append, List.map_cons, List.map_nil, runO_snoc, hr, ecl]; exact hp2) (by rw [List.length_append]; exact hb2)
              rw [List.map_append, List.map_cons, List.map_nil, Int.toNat_natCast] at hih
              exact hih
theorem may_all {l : List S39} (hr : refF l = 0) : ∀ i, i < l.length → mayB (cl l i) = true := fun i h => by
  have ho : okTo l l.length := by
    unfold refF at hr
    split at hr
    · assumption
    · cases hr
  exact bad1_may (ho (i : Int) (by omega) (by omega)).1
/-- What is found, as numbers. -/
noncomputable def srcI (l : List S39) : Option (List Int) := (srcF l).map (fun o => o.map Int.ofNat)
theorem src_lea {l : List S39} (hr : refF l = 0) (hl : l.length ≤ 10) : leaF l 10 [] = srcI l := by
  unfold srcI
  rw [show srcF l = goF l 10 [] zK from if_pos ⟨hr, hl⟩]
  exact lea_go (may_all hr) (by omega) 10 [] zK [] ⟨by simp, fun x hx => by simp at hx⟩ rfl (fun q => by
    rw [show lookS q [] = zSS from rfl]
    exact ⟨rfl, rfl, rfl, rfl, by decide, by decide, fun h => by cases h⟩)
theorem srcI_some {l : List S39} : (srcF l).isSome = (srcI l).isSome := by
  unfold srcI
  cases srcF l <;> rfl
theorem srcI_get {l : List S39} : ((srcF l).getD []).map Int.ofNat = (srcI l).getD [] := by
  unfold srcI
  cases srcF l <;> rfl
/-- What the program's Search answers, as numbers that can be read. -/
theorem src_read {w : World} {l : List S39} {e : Ending} {w' : World} (h : SrcTo w l e w') : ∃ A c, e = .returned (.tuple #[.slice A ((srcI l).getD []).length c, .bool (srcI l).isSome, .int .i64 (srcE l)]) ∧ ((srcI l).getD []).length ≤ c ∧ Kd.C (Kd.int .i64) w' A ((srcI l).getD []).length ((srcI l).getD []) ∧ Below w.heap.size w w' := by
  obtain ⟨v, rfl, ho, hb⟩ := h
  obtain ⟨A, c, rfl, hc, hC⟩ := ints_C ho
  rw [srcI_get] at hC
  have hl : ((srcF l).getD []).length = ((srcI l).getD []).length := by rw [← srcI_get, List.length_map]
  exact ⟨A, c, by rw [hl, srcI_some], by rw [← hl]; exact hc, hC, hb⟩
def RSrTo (w : World) (r : Option (List Int)) (n : Int) (e : Ending) (w' : World) : Prop :=
  ∃ A c, e = .returned (.tuple #[.slice A (r.getD []).length c, .bool r.isSome, .int .i64 n]) ∧ (r.getD []).length ≤ c ∧ Kd.C (Kd.int .i64) w' A (r.getD []).length (r.getD []) ∧ Below w.heap.size w w'
theorem rsr_none {w : World} {r : Option (List Int)} {n m : Int} (h1 : r = none) (h2 : n = m) {w' : World} (hb : Below w.heap.size w w') : RSrTo w r n (.returned (.tuple #[.slice none 0 0, .bool false, .int .i64 m])) w' := by
  subst h1
  subst h2
  exact ⟨none, 0, rfl, Nat.le_refl _, nil_CI w', hb⟩
set_option maxRecDepth 100000 in
set_option maxHeartbeats 8000000 in
theorem rsearch_any (w : World) (A : Option Addr) (c : Nat) (l : List S39) (hr : Kd.C k39 w A l.length l) (hc : l.length ≤ c) (hn : l.length ≤ 1000000000000) :
    Calls Try.prog 34 #[.slice A l.length c] w fun e w' => RSrTo w (srcI l) (srcE l) e w' := by
  have HR := Lib.hid hr
  have HC := Lib.hid hc
  have HN := Lib.hid hn
  have HB := Lib.hid (Below.refl w.heap.size w)
  have HCHK := Lib.hid (fun r (h : refF l = r) => (show Calls Try.prog 17 #[.slice A l.length c] w (fun e w' => e = .returned (.int .i64 r) ∧ Below w.heap.size w w') from h ▸ rcheck_any w A c l hr hc (by omega)))
  clear hr hc hn
  rcases ref_two l with he | he
  · have HCH := Lib.hid (HCHK.out 0 he)
    by_cases hl : l.length ≤ 10
    · have c1 : decide ((l.length : Int) > 10) = false := decide_eq_false (by omega)
      have HLE := Lib.hid (src_lea he hl)
      have HE := Lib.hid (show srcE l = 0 by unfold srcE; rw [if_pos he, if_pos hl])
      have HLA := Lib.hid (fun (W' : World) (hb : Below w.heap.size w W') => (show Calls Try.prog 57 #[.slice A l.length c, .slice none 0 0] W' (fun e w' => LeaTo W' (leaF l 10 []) e w') from least_any w A c l HR.out HC.out HN.out 10 [] W' none 0 hb (nil_CI W') (Nat.le_refl _) ⟨by simp, fun x hx => by simp at hx⟩ (by show l.length ≤ 0 + 10; omega)))
      clear he hl HCHK
      go_enter Try.func34, Try.ntmps34
      go_wp2_with (first
        | (go_at_call 17; (with_reducible refine HCH.out.mono ?_); rintro e_ W_ ⟨rfl, hb⟩; replace HB := Lib.hid (below_step HB.out hb); clear hb)
        | (go_at_call 57; (with_reducible refine (HLA.out _ HB.out).mono ?_); rintro e_ W2 h_; obtain ⟨A2, c2, rfl, hc2, hC2, hb⟩ := lea_use HLE.out h_; have C2 := Lib.hid hC2; have H2 := Lib.hid hc2; replace HB := Lib.hid (below_step HB.out hb); clear h_ hc2 hC2 hb)
        | (fail))
      go_ret3
      rw [HE.out]
      exact ⟨A2, c2, rfl, H2.out, C2.out, HB.out⟩
    · have c1 : decide ((l.length : Int) > 10) = true := decide_eq_true (by omega)
      have HS := Lib.hid (show srcI l = none by unfold srcI srcF; rw [if_neg (fun h => hl h.2)]; rfl)
      have HE := Lib.hid (show srcE l = 261 by unfold srcE; rw [if_pos he, if_neg hl])
      clear he hl HCHK
      go_enter Try.func34, Try.ntmps34
      go_wp2_with (first
        | (go_at_call 17; (with_reducible refine HCH.out.mono ?_); rintro e_ W_ ⟨rfl, hb⟩; replace HB := Lib.hid (below_step HB.out hb); clear hb)
        | (fail))
      go_ret3
      exact rsr_none HS.out HE.out HB.out
  · have HCH := Lib.hid (HCHK.out 260 he)
    have HS := Lib.hid (show srcI l = none by unfold srcI srcF; rw [if_neg (fun h => by rw [he] at h; exact absurd h.1 (by decide))]; rfl)
    have HE := Lib.hid (show srcE l = 260 by unfold srcE; rw [if_neg (by rw [he]; decide)])
    clear he HCHK
    go_enter Try.func34, Try.ntmps34
    go_wp2_with (first
      | (go_at_call 17; (with_reducible refine HCH.out.mono ?_); rintro e_ W_ ⟨rfl, hb⟩; replace HB := Lib.hid (below_step HB.out hb); clear hb)
      | (fail))
    go_ret3
    exact rsr_none HS.out HE.out HB.out
theorem rsr_use {w : World} {r q : Option (List Int)} {n m : Int} (h : r = q) (g : n = m) {e : Ending} {w' : World} (h2 : RSrTo w r n e w') : RSrTo w q m e w' := by
  subst h
  subst g
  exact h2
theorem srcI_len (l : List S39) : ((srcI l).getD []).length ≤ 10 := by
  unfold srcI srcF
  split
  · rename_i h
    cases hg : goF l 10 [] zK with
    | none => decide
    | some r =>
      obtain ⟨t, e, ht, hw⟩ := go_wit l 10 [] zK r hg
      rw [List.nil_append] at e
      subst e
      show (r.map Int.ofNat).length ≤ 10
      rw [List.length_map]
      exact ht
  · decide
set_option maxHeartbeats 64000000 in
set_option maxRecDepth 100000 in
theorem searches_walk (w : World) (A : Option Addr) (c : Nat) (l : List S39) (hr : Kd.C k39 w A l.length l) (hc : l.length ≤ c) (hn : l.length * 168 ≤ 140737488351232) (hwf : ∀ x ∈ l, wfC x) (hks : ∀ i : Int, 0 ≤ i → i < l.length → (rd_T39 l i).f3.size ≤ maxLen) :
    Calls Try.prog 8 #[.slice A l.length c] w fun e w' => e = .returned (.bool true) ∧ Below w.heap.size w w' := by
  have HN := Lib.hid (show l.length ≤ 1000000000000 ∧ (l.length + 2) * 168 ≤ 140737488355328 by omega)
  have HF := Lib.hid (And.intro hwf hks)
  have HC := Lib.hid hc
  have RM := Lib.hid (roomy w A c l hr hc HN.out.2)
  have CA := Lib.hid hr
  have HB := Lib.hid (Below.refl w.heap.size w)
  obtain ⟨r, hsr⟩ : ∃ q, RowKit.Hid (srcI l = q) := ⟨_, Lib.hid rfl⟩
  obtain ⟨n, hse⟩ : ∃ q, RowKit.Hid (srcE l = q) := ⟨_, Lib.hid rfl⟩
  have HRL := Lib.hid (show (r.getD []).length ≤ 10 by rw [← hsr.out]; exact srcI_len l)
  obtain ⟨b, hb0⟩ : ∃ q, r.isSome = q := ⟨_, rfl⟩
  obtain ⟨xs, hxs⟩ : ∃ q, r.getD [] = q := ⟨_, rfl⟩
  have HBX := Lib.hid (And.intro hb0 hxs)
  clear hr hn hwf hks hc hb0 hxs
  go_enter Try.func8, Try.ntmps8
  go_wp2_with (first
    | (go_at_call 14; (with_reducible refine RM.out.mono ?_); rintro e_ W1 ⟨A', c', rfl, hc1, hR, hb⟩; have CM := Lib.hid (Kd.R_reads' hR).2.2; have HM := Lib.hid hc1; replace CA := Lib.hid (Kd.C_below CA.out hb); replace HB := Lib.hid (below_step HB.out hb); clear hb hc1 hR)
    | (go_at_call 33; (with_reducible refine (search_any _ A' c' l (by have h := Kd.C_take CM.out (m := l.length) (by rw [List.length_append]; omega); rw [List.take_left' rfl] at h; exact h) (by have := HM.out; omega) HN.out.1 HF.out.1 HF.out.2).mono ?_); rintro e_ W2 h_; obtain ⟨Ag, cg, h2_, hcg, hCG, hb⟩ := src_read h_; rw [hsr.out, hse.out, HBX.out.1, HBX.out.2] at h2_; subst h2_; rw [hsr.out, HBX.out.2] at hCG hcg; have CG := Lib.hid hCG; have GG := Lib.hid hcg; replace CA := Lib.hid (Kd.C_below CA.out hb); replace CM := Lib.hid (Kd.C_below CM.out hb); replace HB := Lib.hid (below_step HB.out hb); clear hb h_ hcg hCG)
    | (go_at_call 34; (with_reducible refine (rsearch_any _ A c l CA.out HC.out HN.out.1).mono ?_); rintro e_ W3 h_; obtain ⟨Ah, ch, h2_, hch, hCH, hb⟩ := rsr_use hsr.out hse.out h_; rw [HBX.out.1, HBX.out.2] at h2_; subst h2_; rw [HBX.out.2] at hCH hch; have CH := Lib.hid hCH; have GH := Lib.hid hch; replace CA := Lib.hid (Kd.C_below CA.out hb); replace CM := Lib.hid (Kd.C_below CM.out hb); replace CG := Lib.hid (Kd.C_below CG.out hb); replace HB := Lib.hid (below_step HB.out hb); clear hb h_ hch hCH)
    | (go_at_call 31; (with_reducible refine (sint_any _ Ag Ah cg ch xs CG.out CH.out (by have h := HRL.out; rw [HBX.out.2] at h; omega)).mono ?_); rintro e_ W4 ⟨rfl, hb⟩; replace CA := Lib.hid (Kd.C_below CA.out hb); replace CM := Lib.hid (Kd.C_below CM.out hb); replace HB := Lib.hid (below_step HB.out hb); clear hb)
    | (go_at_call 15; (with_reducible refine (hawserlaw26_num.calls n n _ rfl).mono ?_); rintro e_ W5 ⟨rfl, hd⟩; have hb := hd.below; clear hd; replace CA := Lib.hid (Kd.C_below CA.out hb); replace CM := Lib.hid (Kd.C_below CM.out hb); replace HB := Lib.hid (below_step HB.out hb); clear hb)
    | (go_at_call 18; have CK2 := CM.out; rw [List.length_append] at CK2; have CK3 : Kd.C k39 _ A' (l.length + 2) (l ++ marks) := CK2; (with_reducible refine (kept _ A' A c' c l CK3 HM.out CA.out HC.out HN.out.1).mono ?_); rintro e_ W6 ⟨rfl, hb⟩; replace HB := Lib.hid (below_step HB.out hb); clear hb CK2 CK3)
    | (go_at_call 32; (with_reducible refine (awake_any _).mono ?_); rintro e_ W7 ⟨rfl, hb⟩; replace HB := Lib.hid (below_step HB.out hb); clear hb)
    | (fail))
  go_ret
  exact ⟨by first | rfl | simp, HB.out⟩
end Go.Proofs.Ytbakmkoppieelaa.PLinearChecks

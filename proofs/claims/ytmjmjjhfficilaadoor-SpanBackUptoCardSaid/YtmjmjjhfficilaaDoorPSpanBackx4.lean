/- What is proved: contracts of the functions that the law uses, each under the conditions that its theorem states. Written by a program of this session: texts of the kit's print, and texts by hand for the functions that the print does not take. -/
import Derived.Test.YtmjmjjhfficilaaDoorPSpanBackx0
import Derived.Test.YtmjmjjhfficilaaDoorPSpanBackx1
import Derived.Test.YtmjmjjhfficilaaDoorPSpanBackx2
import Derived.Test.YtmjmjjhfficilaaDoorPSpanBackx6
namespace Go.Proofs.YtmjmjjhfficilaaDoor.PSpanBack
open Go.RowKit Go.Proofs.YtmjmjjhfficilaaDoorW.PrintWords Go.Proofs.YtmjmjjhfficilaaDoorW.PrintLast Go.Proofs.YtmjmjjhfficilaaDoorW.PrintMore
attribute [local go_sem] max2_int min2_int max_two min_two max_three min_three max_four min_four   -- for this text's walks alone
set_option linter.unusedVariables false
set_option linter.unusedSimpArgs false

/-! ### span_Buckets: function 13 -/
/-! #### buckets' least texts -/
def lowN (d : Int) (x : Nat) : List Nat := if x = 0 then [] else if d = 1 then [x * 16] else if d = 2 then [x] else if x % 16 = 0 then [x / 16] else [x / 16, x % 16 * 16]
def lowL (d : Int) (x : Nat) : List UInt8 := (lowN d x).map UInt8.ofNat
def okAt (d : Int) (b : Nat) : Bool := match span_least.f d b with
  | some x => x.data.toList == lowL d b
  | _ => false
theorem least_1 : (List.range 16).all (okAt 1) = true := by decide +kernel
theorem least_2 : (List.range 256).all (okAt 2) = true := by decide +kernel
theorem least_3 : (List.range 4096).all (okAt 3) = true := by decide +kernel
def mkB (l : List UInt8) : ByteArray := ⟨l.toArray⟩
theorem mkB_list (l : List UInt8) : (mkB l).toList = l := by rw [ByteArray.toList_eq]; simp [mkB]
theorem eq_mkB {x : ByteArray} {l : List UInt8} (h : x.data.toList = l) : x = mkB l := by
  subst h
  cases x
  simp [mkB]
theorem ok_of {d : Int} {b : Nat} (h : okAt d b = true) : span_least.f d b = some (mkB (lowL d b)) ∧ True := by
  unfold okAt at h
  split at h
  · rename_i x h1
    rw [h1, eq_mkB (eq_of_beq h)]
    exact ⟨rfl, trivial⟩
  · cases h
def cntN (d : Int) : Nat := if d = 1 then 16 else if d = 2 then 256 else 4096
theorem leasts (d : Int) (b : Nat) (hd : d = 1 ∨ d = 2 ∨ d = 3) (h : b < cntN d) : span_least.f d b = some (mkB (lowL d b)) ∧ True := by
  rcases hd with rfl | rfl | rfl
  · exact ok_of (List.all_eq_true.1 least_1 b (List.mem_range.2 h))
  · exact ok_of (List.all_eq_true.1 least_2 b (List.mem_range.2 h))
  · exact ok_of (List.all_eq_true.1 least_3 b (List.mem_range.2 h))
theorem count_in (d : Int) (hd : d = 1 ∨ d = 2 ∨ d = 3) : span_count.f 6 d = some (cntN d : Int) ∧ True ∧ 0 < cntN d ∧ cntN d ≤ 4096 ∧ cntD d = cntN d := by
  rcases hd with rfl | rfl | rfl <;> exact ⟨by decide +kernel, trivial, by decide, by decide, by decide⟩
theorem count_out (d : Int) (hd : ¬ (d = 1 ∨ d = 2 ∨ d = 3)) : span_count.f 6 d = some 0 ∧ True := by
  unfold span_count.f
  by_cases h1 : d < 1
  · rw [if_pos h1]
    exact ⟨rfl, trivial⟩
  · have h2 : decide (d > 3) = true := decide_eq_true (by omega)
    rw [if_neg h1, h2]
    exact ⟨rfl, trivial⟩
theorem count_up (d r : Int) (h : span_count.f 6 d = some r) : ∀ n, span_count.f (6 + n) d = some r
  | 0 => h
  | n + 1 => span_count.mono d (6 + n) _ (count_up d r h n)
def hiL (d : Int) (b : Nat) : List UInt8 := if b + 1 < cntN d then lowL d (b + 1) else []
theorem w_succ (x : Nat) (h : x ≤ 4096) : wrap64 ((x : Int) + 1) = ((x + 1 : Nat) : Int) := IntWalk.wrap64_in _ (by omega)
theorem of_at (d : Int) (x : Nat) (hd : d = 1 ∨ d = 2 ∨ d = 3) (hx : x < cntN d) : ∀ n, span_Of.f (6 + n) d x = some (mkB (lowL d x), mkB (hiL d x), 0)
  | 0 => by
    obtain ⟨c1, -, c2, c3, c4⟩ := count_in d hd
    have hq : span_least.f d ((x + 1 : Nat) : Int) = some (mkB (hiL d x)) := by
      unfold hiL
      by_cases h3 : x + 1 < cntN d
      · rw [if_pos h3]
        exact (leasts d (x + 1) hd h3).1
      · rw [if_neg h3]
        unfold span_least.f
        rw [if_pos ⟨hd, by omega⟩, if_pos (by omega)]
        rfl
    unfold span_Of.f
    rw [c1, Option.bind_some, if_neg (by omega), if_neg (by omega), show decide ((x : Int) ≥ (cntN d : Int)) = false from decide_eq_false (by omega)]
    simp only [span_Of.j0, Bool.false_eq_true, if_false]
    rw [w_succ x (by omega), (leasts d x hd hx).1, Option.bind_some, hq]
    rfl
  | n + 1 => span_Of.mono d x (6 + n) _ (of_at d x hd hx n)
theorem of_bad (d b : Int) (hd : d = 1 ∨ d = 2 ∨ d = 3) (hb : b < 0 ∨ (cntN d : Int) ≤ b) : ∀ n, span_Of.f (6 + n) d b = some ((⟨#[]⟩ : ByteArray), (⟨#[]⟩ : ByteArray), 62)
  | 0 => by
    obtain ⟨c1, -, c2, c3, c4⟩ := count_in d hd
    unfold span_Of.f
    rw [c1, Option.bind_some, if_neg (by omega)]
    by_cases h : b < 0
    · rw [if_pos h]; rfl
    · rw [if_neg h, show decide (b ≥ (cntN d : Int)) = true from decide_eq_true (by omega)]; rfl
  | n + 1 => span_Of.mono d b (6 + n) _ (of_bad d b hd hb n)
theorem ofN (n : Nat) (h : n < 256) : (UInt8.ofNat n).toNat = n := by
  rw [UInt8.toNat_ofNat']; omega
theorem low_lt (d : Int) (x y : Nat) (hd : d = 1 ∨ d = 2 ∨ d = 3) (hx : x < cntN d) (hy : y < cntN d) : lessB (lowL d x) (lowL d y) = true ↔ x < y := by
  have one : ∀ a b : Nat, a < 256 → b < 256 → (lessB [UInt8.ofNat a] [UInt8.ofNat b] = true ↔ a < b) := by
    intro a b ha hb
    rw [lessB_cons, lessB_nil, ofN a ha, ofN b hb]
    simp
  by_cases y0 : y = 0
  · subst y0
    simp [lowL, lowN, lessB_nil]
  · by_cases x0 : x = 0
    · subst x0
      have hne : lowL d y ≠ [] := by
        unfold lowL lowN
        rw [if_neg y0]
        repeat' split
        all_goals simp
      have hx : lowL d 0 = [] := by simp [lowL, lowN]
      rw [hx]
      cases h : lowL d y with
      | nil => exact absurd h hne
      | cons a r => simp [nil_lessB]; omega
    · rcases hd with rfl | rfl | rfl
      · have hx' : x < 16 := hx
        have hy' : y < 16 := hy
        have e1 : lowL 1 x = [UInt8.ofNat (x * 16)] := by simp [lowL, lowN, x0]
        have e2 : lowL 1 y = [UInt8.ofNat (y * 16)] := by simp [lowL, lowN, y0]
        rw [e1, e2, one _ _ (by omega) (by omega)]
        omega
      · have hx' : x < 256 := hx
        have hy' : y < 256 := hy
        have e1 : lowL 2 x = [UInt8.ofNat x] := by simp [lowL, lowN, x0]
        have e2 : lowL 2 y = [UInt8.ofNat y] := by simp [lowL, lowN, y0]
        rw [e1, e2, one _ _ (by omega) (by omega)]
      · have hx' : x < 4096 := hx
        have hy' : y < 4096 := hy
        have a1 := ofN (x / 16) (by omega)
        have a2 := ofN (x % 16 * 16) (by omega)
        have b1 := ofN (y / 16) (by omega)
        have b2 := ofN (y % 16 * 16) (by omega)
        by_cases hx1 : x % 16 = 0
        · have e1 : lowL 3 x = [UInt8.ofNat (x / 16)] := by simp [lowL, lowN, x0, hx1]
          by_cases hy1 : y % 16 = 0
          · have e2 : lowL 3 y = [UInt8.ofNat (y / 16)] := by simp [lowL, lowN, y0, hy1]
            rw [e1, e2, one _ _ (by omega) (by omega)]
            omega
          · have e2 : lowL 3 y = [UInt8.ofNat (y / 16), UInt8.ofNat (y % 16 * 16)] := by simp [lowL, lowN, y0, hy1]
            rw [e1, e2, lessB_cons, nil_lessB, a1, b1]
            simp
            omega
        · have e1 : lowL 3 x = [UInt8.ofNat (x / 16), UInt8.ofNat (x % 16 * 16)] := by simp [lowL, lowN, x0, hx1]
          by_cases hy1 : y % 16 = 0
          · have e2 : lowL 3 y = [UInt8.ofNat (y / 16)] := by simp [lowL, lowN, y0, hy1]
            rw [e1, e2, lessB_cons, lessB_nil, a1, b1]
            simp
            omega
          · have e2 : lowL 3 y = [UInt8.ofNat (y / 16), UInt8.ofNat (y % 16 * 16)] := by simp [lowL, lowN, y0, hy1]
            rw [e1, e2, lessB_cons, lessB_cons, lessB_nil, a1, a2, b1, b2]
            simp
            omega
theorem low_nil (d : Int) (x : Nat) : lowL d x = [] ↔ x = 0 := by
  unfold lowL lowN
  by_cases h : x = 0
  · simp [h]
  · rw [if_neg h]
    repeat' split
    all_goals simp [h]
/-! #### meets -/
set_option maxRecDepth 100000 in
theorem cloM2 (x : S27) (k : ByteArray) (W : World) : Calls Tryd.prog 57 #[.agg #[.string x.f0, .string x.f1], .string k] W fun e w' => e = .returned (.int .i64 (Lib.compareBytes x.f0.data.toList k.data.toList)) ∧ Below W.heap.size W w' := by
  have hcon := fun W' => Any.strings_Compare Tryd.cmpS x.f0 k W'
  change ∀ W', Calls Tryd.prog 55 _ _ _ at hcon
  generalize Lib.compareBytes x.f0.data.toList k.data.toList = r at hcon ⊢
  go_enter Tryd.func57, Tryd.ntmps57
  go_wp2_with (go_at_call 55; refine (hcon _).mono ?_; rintro e w' ⟨rfl, rfl⟩)
  go_ret
  exact ⟨rfl, (Below.refl _ _).alloc (Nat.le_refl _) _⟩
set_option maxRecDepth 100000 in
set_option maxHeartbeats 8000000 in
theorem bs_any2 (w : World) (A : Option Addr) (c : Nat) (l : List S27) (key : ByteArray) (hr : Kd.C k27 w A l.length l) (hn : l.length ≤ 4294967296)
    (hs : ∀ a b : Nat, a ≤ b → b < l.length → cmpR l b key < 0 → cmpR l a key < 0) :
    Calls Tryd.prog 56 #[.slice A l.length c, .string key, .func (.func 57) #[] #[]] w (BsPost l l.length key w) := by
  obtain ⟨n, hN⟩ : ∃ n, RowKit.Hid (n = l.length) := ⟨_, Lib.hid rfl⟩
  have R := Lib.hid (And.intro hr hs)
  rw [← hN.out] at hn ⊢
  clear hr hs
  go_enter Tryd.func56, Tryd.ntmps56
  go_upto_region 3 with (fail)
  go_loopw [9, 10] (fun iv jv wr => ∃ i j : Nat, i ≤ j ∧ j ≤ n ∧ iv = .int .i64 i ∧ jv = .int .i64 j ∧ (∀ q, q < i → cmpR l q key < 0) ∧ (∀ q, j ≤ q → q < n → 0 ≤ cmpR l q key) ∧ Below w.heap.size w wr) (fun iv jv _ => (intOf jv - intOf iv).toNat)
  case atStart => exact ⟨0, n, by omega, by omega, rfl, rfl, fun q hq => by omega, fun q h1 h2 => by omega, Below.refl _ _⟩
  case round =>
    obtain ⟨i, j, hij, hj, rfl, rfl, hlo, hhi, hb⟩ := hrel
    have hz := hb.size
    by_cases hlt : i < j
    · have h1 : i ≤ (i + j) / 2 := by omega
      have h2 : (i + j) / 2 < j := by omega
      have u16 : (((i + j) / 2 : Nat) : Int) < (n : Int) := by omega
      obtain ⟨ad, eA, x0, x1⟩ := at_T27 (Kd.C_below R.out.1 hb) (((i + j) / 2 : Nat) : Int) (by omega) (by rw [← hN.out]; exact u16)
      simp only [Int.toNat_natCast] at x0 x1
      obtain ⟨r, hrr⟩ : ∃ r, RowKit.Hid (r = rd_T27 l (((i + j) / 2 : Nat) : Int)) := ⟨_, Lib.hid rfl⟩
      rw [← hrr.out] at x0 x1
      obtain ⟨v, hv⟩ : ∃ v, RowKit.Hid (v = cmpR l ((i + j) / 2) key) := ⟨_, Lib.hid rfl⟩
      have hclo : ∀ W, Calls Tryd.prog 57 #[.agg #[.string r.f0, .string r.f1], .string key] W fun e w' => e = .returned (.int .i64 v) ∧ Below W.heap.size W w' := by
        intro W
        rw [hv.out]
        unfold cmpR
        rw [← hrr.out]
        exact cloM2 r key W
      have s0 : (i : Int) < (j : Int) := by omega
      have s1 : (0 : Int) ≤ (i : Int) := by omega
      have s2 : (i : Int) ≤ 4294967296 := by omega
      have s3 : (j : Int) ≤ 4294967296 := by omega
      have s4 : (0 : Int) ≤ (j : Int) := by omega
      have H := Lib.hid (And.intro hlo (And.intro hhi (And.intro hb hz)))
      clear hlo hhi hb hz
      cases eA
      by_cases hc : v < 0
      · go_wp2_with (first
          | (go_at_call 57; refine (hclo _).mono ?_; rintro e w2 ⟨rfl, hb2⟩))
        refine ⟨⟨(i + j) / 2 + 1, j, by omega, hj, by go_num, rfl, fun q hq => ?_, H.out.2.1, H.out.2.2.1.trans (hb2.mono H.out.2.2.2)⟩, by simp [intOf]; omega⟩
        exact R.out.2 q ((i + j) / 2) (by omega) (by rw [← hN.out]; omega) (by rw [← hv.out]; exact hc)
      · go_wp2_with (first
          | (go_at_call 57; refine (hclo _).mono ?_; rintro e w2 ⟨rfl, hb2⟩))
        refine ⟨⟨i, (i + j) / 2, by omega, by omega, rfl, by go_num, H.out.1, fun q h3 h4 => ?_, H.out.2.2.1.trans (hb2.mono H.out.2.2.2)⟩, by simp [intOf]; omega⟩
        by_cases h5 : cmpR l q key < 0
        · have h6 : v < 0 := by rw [hv.out]; exact R.out.2 ((i + j) / 2) q h3 (by rw [← hN.out]; exact h4) h5
          omega
        · omega
    · obtain rfl : i = j := by omega
      have s0 : ¬ ((i : Int) < (i : Int)) := by omega
      by_cases hin : i < n
      · have u16 : (i : Int) < (n : Int) := by omega
        obtain ⟨ad, eA, x0, x1⟩ := at_T27 (Kd.C_below R.out.1 hb) (i : Int) (by omega) (by rw [← hN.out]; exact u16)
        simp only [Int.toNat_natCast] at x0 x1
        obtain ⟨r, hrr⟩ : ∃ r, RowKit.Hid (r = rd_T27 l (i : Int)) := ⟨_, Lib.hid rfl⟩
        rw [← hrr.out] at x0 x1
        obtain ⟨v, hv⟩ : ∃ v, RowKit.Hid (v = cmpR l i key) := ⟨_, Lib.hid rfl⟩
        have hclo : ∀ W, Calls Tryd.prog 57 #[.agg #[.string r.f0, .string r.f1], .string key] W fun e w' => e = .returned (.int .i64 v) ∧ Below W.heap.size W w' := by
          intro W
          rw [hv.out]
          unfold cmpR
          rw [← hrr.out]
          exact cloM2 r key W
        have H := Lib.hid (And.intro hlo (And.intro hhi (And.intro hb hz)))
        clear hlo hhi hb hz
        have l16 : (0 : Int) ≤ (i : Int) := by omega
        replace u16 := eq_true u16
        cases eA
        go_wp2_with (first
          | (go_at_call 57; refine (hclo _).mono ?_; rintro e w2 ⟨rfl, hb2⟩))
        go_ret2
        refine ⟨i, v == 0, by omega, H.out.1, H.out.2.1, ?_, rfl, H.out.2.2.1.trans (hb2.mono H.out.2.2.2)⟩
        have hv' := hv.out
        by_cases e0 : v = 0
        · rw [e0] at hv' ⊢
          rw [decide_eq_true (⟨hin, hv'.symm⟩ : i < n ∧ cmpR l i key = 0)]
          rfl
        · rw [decide_eq_false (fun h : i < n ∧ cmpR l i key = 0 => e0 (hv'.trans h.2))]
          exact beq_eq_false_iff_ne.2 e0
      · obtain rfl : i = n := by omega
        have H := Lib.hid (And.intro hlo hb)
        clear hlo hhi
        go_wp2
        go_ret2
        refine ⟨i, false, by omega, H.out.1, fun j h3 h4 => by omega, ?_, rfl, H.out.2⟩
        rw [decide_eq_false (fun h : i < i ∧ cmpR l i key = 0 => absurd h.1 (Nat.lt_irrefl i))]
def meetsB (l : List S27) (r : S27) : Bool := Texts.hasL (l.map pR) r.f0.toList || l.any (fun x => Texts.has (pR r) x.f0.toList)
/-- The first place whose range begins no earlier. -/
def FromPost (l : List S27) (key : ByteArray) (w : World) (e : Ending) (w' : World) : Prop := ∃ (i : Nat) (b : Bool), i ≤ l.length ∧ (∀ j, j < i → Op.bytesLess (rd_T27 l (j : Int)).f0.toList key.toList = true) ∧ (∀ j, i ≤ j → j < l.length → Op.bytesLess (rd_T27 l (j : Int)).f0.toList key.toList = false) ∧ e = .returned (.tuple #[.int .i64 i, .bool b]) ∧ Below w.heap.size w w'
theorem from_any (w : World) (A : Option Addr) (c : Nat) (l : List S27) (key : ByteArray) (hr : Kd.C k27 w A l.length l) (hn : l.length ≤ 4294967296) (hs : RisesR l) :
    Calls Tryd.prog 56 #[.slice A l.length c, .string key, .func (.func 57) #[] #[]] w (FromPost l key w) := by
  have hmono : ∀ a b : Nat, a ≤ b → b < l.length → cmpR l b key < 0 → cmpR l a key < 0 := by
    intro a b hab hb h
    rcases Nat.lt_or_ge a b with h1 | h1
    · unfold cmpR at h ⊢
      rw [cmp_lt, toList_data, toList_data] at h ⊢
      exact Texts.trans (hs a b h1 hb) h
    · obtain rfl : a = b := by omega
      exact h
  refine (bs_any2 w A c l key hr hn hmono).mono ?_
  rintro e w' ⟨i, b, hi, hlo, hhi, -, he, hb⟩
  refine ⟨i, b, hi, fun j hj => ?_, fun j h1 h2 => ?_, he, hb⟩
  · have h := hlo j hj
    unfold cmpR at h
    rw [cmp_lt, toList_data, toList_data] at h
    exact h
  · have h := hhi j h1 h2
    cases e : Op.bytesLess (rd_T27 l (j : Int)).f0.toList key.toList with
    | false => rfl
    | true =>
      rw [← toList_data, ← toList_data, ← cmp_lt] at e
      unfold cmpR at h
      omega
/-- What is left, when the beginning isn't in the list: the first range behind it. -/
theorem meets_rest {l : List S27} (h : Texts.NF (l.map pR)) {r : S27} {i : Nat} (hi : i ≤ l.length) (hlo : ∀ j, j < i → Op.bytesLess (rd_T27 l (j : Int)).f0.toList r.f0.toList = true) (hhi : ∀ j, i ≤ j → j < l.length → Op.bytesLess (rd_T27 l (j : Int)).f0.toList r.f0.toList = false) :
    l.any (fun x => Texts.has (pR r) x.f0.toList) = (decide (i < l.length) && Texts.has (pR r) (rd_T27 l (i : Int)).f0.toList) := by
  have hrise := nf_rises h
  by_cases q : i < l.length
  · rw [decide_eq_true q, Bool.true_and]
    cases e : Texts.has (pR r) (rd_T27 l (i : Int)).f0.toList with
    | true => rw [rdR l i q] at e; exact List.any_eq_true.2 ⟨l[i], List.getElem_mem _, e⟩
    | false =>
      cases e2 : l.any (fun x => Texts.has (pR r) x.f0.toList) with
      | false => rfl
      | true =>
        obtain ⟨x, hx, hh⟩ := List.any_eq_true.1 e2
        obtain ⟨j, hj, rfl⟩ := List.mem_iff_getElem.1 hx
        have h1 := Texts.has_iff.1 hh
        have hji : ¬ j < i := fun hji => by
          have h2 := hlo j hji
          rw [rdR l j hj] at h2
          have h3 : Texts.lt l[j].f0.toList r.f0.toList = false := h1.1
          rw [show Texts.lt l[j].f0.toList r.f0.toList = true from h2] at h3; cases h3
        rcases Nat.lt_or_ge i j with h4 | h4
        · have h5 := hrise i j h4 hj
          have h6 : Texts.has (pR r) (rd_T27 l (i : Int)).f0.toList = true := by
            refine Texts.has_iff.2 ⟨hhi i (Nat.le_refl _) q, ?_⟩
            rcases h1.2 with h7 | h7
            · exact .inl h7
            · right
              rw [rdR l j hj] at h5
              exact Texts.trans h5 h7
          rw [h6] at e; cases e
        · obtain rfl : j = i := by omega
          rw [rdR l j hj] at e
          rw [hh] at e; cases e
  · rw [decide_eq_false q, Bool.false_and]
    cases e2 : l.any (fun x => Texts.has (pR r) x.f0.toList) with
    | false => rfl
    | true =>
      obtain ⟨x, hx, hh⟩ := List.any_eq_true.1 e2
      obtain ⟨j, hj, rfl⟩ := List.mem_iff_getElem.1 hx
      have h1 := (Texts.has_iff.1 hh).1
      have h2 := hlo j (by omega)
      rw [rdR l j hj] at h2
      rw [show Texts.lt l[j].f0.toList (pR r).1 = true from h2] at h1; cases h1
set_option maxRecDepth 100000 in
set_option maxHeartbeats 8000000 in
theorem meets_any (w : World) (A : Option Addr) (c : Nat) (l : List S27) (r : S27) (hr : Kd.C k27 w A l.length l) (hn : l.length ≤ 4294967296) (h : Texts.NF (l.map pR)) :
    Calls Tryd.prog 39 #[.slice A l.length c, .agg #[.string r.f0, .string r.f1]] w fun e w' => e = .returned (.bool (meetsB l r)) ∧ Below w.heap.size w w' := by
  have h1 := fun W (hb : Below w.heap.size w W) => holds_nf W A c l r.f0 (Kd.C_below hr hb) hn h
  have h2 := fun W (hb : Below w.heap.size w W) => from_any W A c l r.f0 (Kd.C_below hr hb) hn (nf_rises h)
  have hhas := fun x W => has_any r x W
  have hrest := fun i hi hlo hhi => meets_rest h (r := r) (i := i) hi hlo hhi
  obtain ⟨p, hp⟩ : ∃ p, RowKit.Hid (p = Texts.hasL (l.map pR) r.f0.toList) := ⟨_, Lib.hid rfl⟩
  have hmb : RowKit.Hid (meetsB l r = (p || l.any (fun x => Texts.has (pR r) x.f0.toList))) := Lib.hid (by rw [hp.out]; rfl)
  rw [hmb.out]
  rw [← hp.out] at h1
  obtain ⟨an, han⟩ : ∃ an, RowKit.Hid (an = l.any (fun x => Texts.has (pR r) x.f0.toList)) := ⟨_, Lib.hid rfl⟩
  rw [← han.out] at hrest ⊢
  have R := Lib.hid hr
  have H1 := Lib.hid h1
  have H2 := Lib.hid h2
  have HR := Lib.hid hrest
  clear hr h h1 h2 hrest
  obtain ⟨n, hN⟩ : ∃ n, RowKit.Hid (n = l.length) := ⟨_, Lib.hid rfl⟩
  rw [← hN.out] at H1 H2 HR hn R ⊢
  have b0 : RowKit.Hid (Below w.heap.size w (w.alloc (.cells #[.string r.f0, .string r.f1] 27))) := Lib.hid ((Below.refl _ _).alloc (Nat.le_refl _) _)
  have g0 : (w.alloc (.cells #[.string r.f0, .string r.f1] 27)).heap[w.heap.size]? = some (.cells #[.string r.f0, .string r.f1] 27 (0, 0)) := heap_alloc_new w _
  have G0 := Lib.hid g0
  clear g0
  obtain ⟨f0, f1⟩ := r
  simp only at *
  cases p with
  | true =>
    go_enter Tryd.func39, Tryd.ntmps39
    go_wp2_with (first
      | (go_at_call 44; (with_reducible refine (H1.out _ b0.out).mono ?_); rintro e w2 ⟨rfl, hb2⟩; have Hb2 := Lib.hid hb2; clear hb2))
    go_ret
    exact ⟨rfl, b0.out.trans (Hb2.out.mono b0.out.size)⟩
  | false =>
    go_enter Tryd.func39, Tryd.ntmps39
    go_upto_region 3 with (first
      | (go_at_call 44; (with_reducible refine (H1.out _ b0.out).mono ?_); rintro e w2 ⟨rfl, hb2⟩; have Hb2 := Lib.hid hb2; clear hb2))
    have b2 := Lib.hid (b0.out.trans (Hb2.out.mono b0.out.size))
    have lt0 : w.heap.size < (w.alloc (.cells #[.string f0, .string f1] 27)).heap.size := by rw [World.size_alloc]; omega
    have g2 : w2.heap[w.heap.size]? = some (.cells #[.string f0, .string f1] 27 (0, 0)) := (Hb2.out.block _ lt0).trans G0.out
    have z0 : w2.cell? ⟨w.heap.size, 0, none⟩ = some (.string f0) := cell_of_row w2 _ 0 _ _ _ g2
    go_upto_region 4 with (first
      | (go_at_call 56; (with_reducible refine (H2.out _ b2.out).mono ?_); rintro e w3 ⟨i, b, hi, hlo, hhi, rfl, hb3⟩; have Hb3 := Lib.hid (And.intro hi (And.intro hlo (And.intro hhi hb3))); clear hlo hhi hb3))
    have b3 := Lib.hid (b2.out.trans (Hb3.out.2.2.2.mono b2.out.size))
    have lt2 : w.heap.size < w2.heap.size := by rcases Nat.lt_or_ge w.heap.size w2.heap.size with h | h; exact h; rw [Array.getElem?_eq_none h] at g2; cases g2
    have g3 : w3.heap[w.heap.size]? = some (.cells #[.string f0, .string f1] 27 (0, 0)) := (Hb3.out.2.2.2.block _ lt2).trans g2
    have y0 : w3.cell? ⟨w.heap.size, 0, none⟩ = some (.string f0) := cell_of_row w3 _ 0 _ _ _ g3
    have y1 : w3.cell? ⟨w.heap.size, 1, none⟩ = some (.string f1) := cell_of_row w3 _ 1 _ _ _ g3
    have hrs := HR.out i (by have := Hb3.out.1; have := hN.out; omega) Hb3.out.2.1 (fun j h1 h2 => Hb3.out.2.2.1 j h1 (by have := hN.out; omega))
    have hC3 : RowKit.Hid (Kd.C k27 w3 A n l) := Lib.hid (Kd.C_below R.out b3.out)
    clear g2 z0 g3 lt0 lt2
    by_cases hin : i < n
    · have l16 : (0 : Int) ≤ (i : Int) := by omega
      have u16 : (i : Int) < (n : Int) := by omega
      obtain ⟨ad, eA, x0, x1⟩ := at_T27 hC3.out (i : Int) l16 u16
      simp only [Int.toNat_natCast] at x0 x1
      rw [decide_eq_true hin, Bool.true_and] at hrs
      obtain ⟨x, hx⟩ : ∃ x, RowKit.Hid (x = rd_T27 l (i : Int)) := ⟨_, Lib.hid rfl⟩
      rw [← hx.out] at x0 x1 hrs
      have hh : ∀ W, Calls Tryd.prog 58 #[.agg #[.string f0, .string f1], .string x.f0] W fun e w' => e = .returned (.bool an) ∧ Below W.heap.size W w' := by
        intro W
        rw [hrs]
        exact hhas x.f0 W
      have hlt : decide ((i : Int) < (n : Int)) = true := decide_eq_true u16
      have xl := World.block_lt_of_cell? w3 _ x0
      have AN := Lib.hid hrs
      replace l16 := eq_true l16
      replace u16 := eq_true u16
      clear hhas hrs hi
      cases eA
      have yl : w.heap.size < w3.heap.size := World.block_lt_of_cell? w3 _ y0
      refine start_ (n := 14) (S := fun w' => w'.cell? ⟨w.heap.size, 0, none⟩ = some (.string f0) ∧ w'.cell? ⟨w.heap.size, 1, none⟩ = some (.string f1) ∧ w'.cell? (ad.add (i * 2)) = some (.string x.f0)) (ds := []) #[false, false, false, false, false, false, false, false, false, false, false, false, false, false] (by kernel_rfl) rfl rfl ⟨y0, y1, x0⟩ (fun hHeld => ?_)
      refine pure_ (i := 0) (N := (some 18)) (v := ?_) (a' := ?_) #[true, false, false, false, false, false, false, false, false, false, false, false, false, false] rfl rfl (by kernel_rfl) (fun _ _ _ h => h) (Or.inl ⟨by rfl, ?_⟩) ?_ ?_
      rotate_left
      · intro w'
        go_simp
        with_reducible rfl
      rotate_left
      · simp only [Act.put, List.setIfInBounds_toArray, List.set_cons_zero, List.set_cons_succ, i64_w, i32_w]
        rfl
      refine pure_ (i := 1) (N := (some 19)) (v := ?_) (a' := ?_) #[true, true, false, false, false, false, false, false, false, false, false, false, false, false] rfl rfl (by kernel_rfl) (fun _ _ _ h => h) (Or.inl ⟨by rfl, ?_⟩) ?_ ?_
      rotate_left
      · intro w'
        go_simp
        with_reducible rfl
      rotate_left
      · simp only [Act.put, List.setIfInBounds_toArray, List.set_cons_zero, List.set_cons_succ, i64_w, i32_w]
        rfl
      refine pure_ (i := 2) (N := (some 20)) (v := ?_) (a' := ?_) #[true, true, true, false, false, false, false, false, false, false, false, false, false, false] rfl rfl (by kernel_rfl) (fun _ _ _ h => h) (Or.inl ⟨by rfl, ?_⟩) ?_ ?_
      rotate_left
      · intro w'
        go_simp
        with_reducible rfl
      rotate_left
      · simp only [Act.put, List.setIfInBounds_toArray, List.set_cons_zero, List.set_cons_succ, i64_w, i32_w]
        rfl
      refine pure_ (i := 3) (N := (some 21)) (v := ?_) (a' := ?_) #[true, true, true, true, false, false, false, false, false, false, false, false, false, false] rfl rfl (by kernel_rfl) (fun _ _ _ h => h) (Or.inl ⟨by rfl, ?_⟩) ?_ ?_
      rotate_left
      · intro w'
        go_simp
        with_reducible rfl
      rotate_left
      · simp only [Act.put, List.setIfInBounds_toArray, List.set_cons_zero, List.set_cons_succ, i64_w, i32_w]
        rfl
      refine pure_ (i := 4) (N := (some 22)) (v := ?_) (a' := ?_) #[true, true, true, true, true, false, false, false, false, false, false, false, false, false] rfl rfl (by kernel_rfl) (fun _ _ _ h => h) (Or.inl ⟨by rfl, ?_⟩) ?_ ?_
      rotate_left
      · intro w'
        go_simp
        with_reducible rfl
      rotate_left
      · simp only [Act.put, List.setIfInBounds_toArray, List.set_cons_zero, List.set_cons_succ, i64_w, i32_w]
        rfl
      refine pure_ (i := 6) (N := (some 24)) (v := ?_) (a' := ?_) #[true, true, true, true, true, false, true, false, false, false, false, false, false, false] rfl rfl (by kernel_rfl) (fun _ _ _ h => h) (Or.inl ⟨by rfl, ?_⟩) ?_ ?_
      rotate_left
      · intro w'
        go_simp
        with_reducible rfl
      rotate_left
      · simp only [Act.put, List.setIfInBounds_toArray, List.set_cons_zero, List.set_cons_succ, i64_w, i32_w]
        rfl
      refine pure_ (i := 7) (N := (some 25)) (v := ?_) (a' := ?_) #[true, true, true, true, true, false, true, true, false, false, false, false, false, false] rfl rfl (by kernel_rfl) (fun _ _ _ h => h) (Or.inl ⟨by rfl, ?_⟩) ?_ ?_
      rotate_left
      · intro w'
        go_simp
        with_reducible rfl
      rotate_left
      · simp only [Act.put, List.setIfInBounds_toArray, List.set_cons_zero, List.set_cons_succ, i64_w, i32_w]
        rfl
      refine pure_ (i := 8) (N := (some 26)) (v := ?_) (a' := ?_) #[true, true, true, true, true, false, true, true, true, false, false, false, false, false] rfl rfl (by kernel_rfl) (fun _ _ _ h => h) (Or.inl ⟨by rfl, ?_⟩) ?_ ?_
      rotate_left
      · intro w'
        go_simp
        with_reducible rfl
      rotate_left
      · simp only [Act.put, List.setIfInBounds_toArray, List.set_cons_zero, List.set_cons_succ, i64_w, i32_w]
        rfl
      refine pure_ (i := 9) (N := (some 27)) (v := ?_) (a' := ?_) #[true, true, true, true, true, false, true, true, true, true, false, false, false, false] rfl rfl (by kernel_rfl) (fun _ _ _ h => h) (Or.inl ⟨by rfl, ?_⟩) ?_ ?_
      rotate_left
      · intro w'
        go_simp
        with_reducible rfl
      rotate_left
      · simp only [Act.put, List.setIfInBounds_toArray, List.set_cons_zero, List.set_cons_succ, i64_w, i32_w]
        rfl
      refine take_ (i := 5) (N := (some 23)) (v := ?_) (a' := ?_) #[true, true, true, true, true, true, true, true, true, true, false, false, false, false] rfl rfl (by kernel_rfl) (fun _ _ _ h => h) (Or.inl ⟨by rfl, ?_⟩) hHeld ?_ ?_
      rotate_left
      · rintro w' ⟨s0, s1, s2⟩
        go_simp
        with_reducible rfl
      rotate_left
      · simp only [Act.put, List.setIfInBounds_toArray, List.set_cons_zero, List.set_cons_succ, i64_w, i32_w]
        rfl
      refine take_ (i := 10) (N := (some 28)) (v := ?_) (a' := ?_) #[true, true, true, true, true, true, true, true, true, true, true, false, false, false] rfl rfl (by kernel_rfl) (fun _ _ _ h => h) (Or.inl ⟨by rfl, ?_⟩) hHeld ?_ ?_
      rotate_left
      · rintro w' ⟨s0, s1, s2⟩
        go_simp
        with_reducible rfl
      rotate_left
      · simp only [Act.put, List.setIfInBounds_toArray, List.set_cons_zero, List.set_cons_succ, i64_w, i32_w]
        rfl
      refine one_ (i := 11) (N := (some 29)) #[true, true, true, true, true, true, true, true, true, true, true, true, false, false] rfl rfl (by kernel_rfl) (by decide) (fun K hK => ?_)
      refine goes_ Tryd.func58 (by kernel_rfl) rfl #[.agg #[.string f0, .string f1], .string x.f0] (by rfl) rfl rfl (by (try simp only [List.map_toArray, List.map_cons, List.map_nil]); rfl) ?_
      refine (hh _).mono ?_
      rintro e w4 ⟨rfl, hb4⟩
      refine ⟨_, rfl, ?_⟩
      have RB := Lib.hid hb4
      have yl2 := yl
      replace y0 := (hb4.cell (p := ⟨w.heap.size, 0, none⟩) yl).trans y0
      replace y1 := (hb4.cell (p := ⟨w.heap.size, 1, none⟩) yl).trans y1
      replace x0 := (hb4.cell (p := ad.add (i * 2)) xl).trans x0
      clear hb4
      refine hK.out _ _ ⟨y0, y1, x0⟩ (fun hHeld => ?_)
      clear hK K
      refine norm_ (a' := ?_) ?_ ?_
      rotate_left
      · show Act.put _ (some 29) _ = _
        simp only [Act.put, List.setIfInBounds_toArray, List.set_cons_zero, List.set_cons_succ, i64_w, i32_w]
        rfl
      refine pure_ (i := 12) (N := (some 30)) (v := ?_) (a' := ?_) #[true, true, true, true, true, true, true, true, true, true, true, true, true, false] rfl rfl (by kernel_rfl) (fun _ _ _ h => h) (Or.inl ⟨by rfl, ?_⟩) ?_ ?_
      rotate_left
      · intro w'
        go_simp
        with_reducible rfl
      rotate_left
      · simp only [Act.put, List.setIfInBounds_toArray, List.set_cons_zero, List.set_cons_succ, i64_w, i32_w]
        rfl
      refine pure_ (i := 13) (N := (some 4)) (v := ?_) (a' := ?_) #[true, true, true, true, true, true, true, true, true, true, true, true, true, true] rfl rfl (by kernel_rfl) (fun _ _ _ h => h) (Or.inl ⟨by rfl, ?_⟩) ?_ ?_
      rotate_left
      · intro w'
        go_simp
        with_reducible rfl
      rotate_left
      · simp only [Act.put, List.setIfInBounds_toArray, List.set_cons_zero, List.set_cons_succ, i64_w, i32_w]
        rfl
      refine done_ (by kernel_rfl) ?_
      go_wp2
      go_ret
      rw [AN.out]
      exact ⟨rfl, b3.out.trans ((Below.drew (Below.refl _ _)).trans (RB.out) |>.mono b3.out.size)⟩
    · have hni : ¬ ((i : Int) < (n : Int)) := by omega
      rw [decide_eq_false hin, Bool.false_and] at hrs
      have AN := Lib.hid hrs
      clear hrs
      go_quiet (fail)
      go_wp2
      go_ret
      rw [AN.out]
      exact ⟨rfl, pw_below_drewN b3.out _⟩
/-! #### All goes over the buckets -/
attribute [local go_sem] Oper.semAt_some
def bk (d : Int) (b : Nat) : S27 := ⟨mkB (lowL d b), mkB (hiL d b)⟩
def bkL (d : Int) (k : Nat) : List (Nat × S27) := (List.range k).map fun b => (b, bk d b)
theorem bkL_succ (d : Int) (k : Nat) : bkL d (k + 1) = bkL d k ++ [(k, bk d k)] := by simp [bkL, List.range_succ]
theorem bkL_length (d : Int) (k : Nat) : (bkL d k).length = k := by simp [bkL]
def encB (x : Nat × S27) : Array Value := #[.int .i64 (x.1 : Int), .agg #[.string x.2.f0, .string x.2.f1]]
/-- What a round that goes on keeps: what lay, and the depth's box. -/
def KpB (n₀ Bd : Nat) (A B : World) : Prop := Below n₀ A B ∧ ∀ v, A.cell? ⟨Bd, 0, none⟩ = some v → B.cell? ⟨Bd, 0, none⟩ = some v
theorem KpB.trans {n₀ Bd : Nat} {A B C : World} (h : KpB n₀ Bd A B) (k : KpB n₀ Bd B C) : KpB n₀ Bd A C := ⟨h.1.trans k.1, fun v hv => k.2 v (h.2 v hv)⟩
theorem KpB.below {n₀ Bd : Nat} {A B : World} (h : Below A.heap.size A B) (hn : n₀ ≤ A.heap.size) : KpB n₀ Bd A B :=
  ⟨h.mono hn, fun v hv => (h.cell (p := ⟨Bd, 0, none⟩) (World.block_lt_of_cell? A _ hv)).trans hv⟩
theorem grown_of_below {A B : World} (h : Below A.heap.size A B) : A.grownBy B none := ⟨h.os, h.tape, h.output, h.size, fun k hk _ => h.block k hk⟩
theorem KpB.put {n₀ Bd : Nat} {w : World} (hn : n₀ ≤ w.heap.size) (W : World) (l : Nat) (o o' : Obj) (hl : w.heap.size ≤ l) (h : W.heap[l]? = some o) (hc : o.isCells = false) (hw : o.isWalk = false) : KpB n₀ Bd W (W.putObj l o') := by
  refine ⟨belowK_b hn W l o o' hl h hc hw, fun v hv => ?_⟩
  have hg := grownBy_putObj' W l o'
  have hlt := World.block_lt_of_cell? W _ hv
  by_cases e : Bd = l
  · subst e
    unfold World.cell? at hv
    simp only [h] at hv
    cases o <;> simp_all [Obj.isCells]
  · unfold World.cell? at hv ⊢
    rw [hg.block Bd hlt (fun h => e (by injection h))]
    exact hv
set_option maxHeartbeats 1000000 in
theorem all_in (n : Nat) (d : Int) (w : World) : CallsIn Fence.wide n Tryd.prog 9 #[.int .i64 d] w fun e w' => e = .returned (.func (.func 34) #[] #[.pointer (some ⟨w.heap.size, 0, none⟩)]) ∧ w' = w.alloc (.cells #[.int .i64 d] 3) := by
  refine callsIn_of_wp Tryd.func9 rfl trivial ?_ rfl
  simp only [Tryd.ntmps9, List.size_toArray, List.length_cons, List.length_nil, Nat.reduceAdd, Nat.reduceSub, Array.replicate_succ, Array.replicate_zero, List.push_toArray, List.append_toArray, List.nil_append, List.cons_append]
  gi_wp2
  go_ret
  exact ⟨rfl, rfl⟩
def AllPost (d : Int) (cn : Nat) (J Jx : List (Nat × S27) → World → Prop) (e : Ending) (W' : World) : Prop := (∃ v, e = .returned v) ∧
      ((∃ ys, ys = bkL d cn ∧ J ys W') ∨ (∃ pre, (∃ k, k ≤ cn ∧ pre = bkL d k) ∧ Jx pre W'))
set_option maxRecDepth 100000 in
set_option maxHeartbeats 4000000 in
theorem all1_in (n : Nat) (hn : 1 ≤ n) (l Bd n₀ : Nat) (d : Int) (hd : d = 1 ∨ d = 2 ∨ d = 3) (J Jx : List (Nat × S27) → World → Prop) (B0 : Nat) (hJ : AbidesFrom B0 J)
    (hY : ∀ pre x W, J pre W → pre.length < cntN d → YieldAt Fence.wide (n - 1) Tryd.prog l (encB x) W fun e W' =>
      (e = .returned (.bool true) ∧ J (pre ++ [x]) W' ∧ KpB n₀ Bd W W') ∨ (e = .returned (.bool false) ∧ Jx (pre ++ [x]) W'))
    (W : World) (hBd : W.cell? ⟨Bd, 0, none⟩ = some (.int .i64 d)) (h0 : J [] W) :
    CallsIn Fence.wide n Tryd.prog 34 #[.func (.yield l) #[] #[], .pointer (some ⟨Bd, 0, none⟩)] W (AllPost d (cntN d) J Jx) := by
  obtain ⟨hcnt, -, hc0, hc1, -⟩ := count_in d hd
  obtain ⟨cn, hcn⟩ : ∃ cn, RowKit.Hid (cn = cntN d) := ⟨_, Lib.hid rfl⟩
  rw [← hcn.out] at hcnt hc0 hc1 hY ⊢
  have hcount := fun W' => span_count.calls 6 d (cn : Int) W' hcnt
  have hof := fun (b : Nat) (hb : b < cn) W' => span_Of.calls 6 d (b : Int) (bk d b).f0 (bk d b).f1 0 W' (of_at d b hd (by rw [← hcn.out]; exact hb) 0)
  have HY := Lib.hid hY
  have HJ := Lib.hid hJ
  have HO := Lib.hid hof
  have J0 := Lib.hid h0
  have HC := Lib.hid hcount
  have HCN := Lib.hid (And.intro hc0 hc1)
  clear hcnt hY hJ hof h0 hcount hd hc0
  refine callsIn_of_wp Tryd.func34 rfl trivial ?_ rfl
  simp only [Tryd.ntmps34, List.size_toArray, List.length_cons, List.length_nil, Nat.reduceAdd, Nat.reduceSub, Array.replicate_succ, Array.replicate_zero, List.push_toArray, List.append_toArray, List.nil_append, List.cons_append]
  gi_wp2_with (first
    | (refine ⟨trivial, ?_⟩; gi_at_call 35; refine (callsIn_wide.2 (HC.out _)).mono ?_; rintro e w' ⟨rfl, ⟨nd, rfl⟩⟩))
  gi_loopw [8] (fun i wr => ∃ k : Nat, k ≤ cn ∧ i = .int .i64 k ∧ J (bkL d k) wr ∧ wr.cell? ⟨Bd, 0, none⟩ = some (.int .i64 d)) (fun i _ => cn - (intOf i).toNat)
  case atStart =>
    refine ⟨0, by omega, rfl, ?_, ?_⟩
    · exact HJ.out _ _ _ none J0.out (grown_of_below (pw_below_drewN (Below.refl _ _) nd)) (fun r e => by cases e)
    · first | exact hBd | (simpa using hBd)
  case round =>
    obtain ⟨k, hk, rfl, hJs, hcx⟩ := hrel
    by_cases hlt : k < cn
    · have l16 : (0 : Int) ≤ (k : Int) := by omega
      have u16 : (k : Int) < (cn : Int) := by omega
      have JS := Lib.hid hJs
      have hof := HO.out k hlt
      obtain ⟨q, hq⟩ : ∃ q, RowKit.Hid (q = bk d k) := ⟨_, Lib.hid rfl⟩
      rw [← hq.out] at hof
      have CX := Lib.hid hcx
      clear hJs
      gi_upto_region 4 with (first
        | (refine ⟨trivial, ?_⟩; gi_at_call 11; refine (callsIn_wide.2 (hof _)).mono ?_; rintro e w3 ⟨rfl, hb3⟩))
      obtain ⟨w4, hw4⟩ : ∃ w4, w4 = w3.alloc (.cells #[.string q.f0, .string q.f1] 27) := ⟨_, rfl⟩
      rw [← hw4]
      have b4 : Below wr.heap.size wr w4 := by rw [hw4]; exact hb3.alloc hb3.size _
      have g4 : w4.heap[w3.heap.size]? = some (.cells #[.string q.f0, .string q.f1] 27 (0, 0)) := by rw [hw4]; exact heap_alloc_new w3 _
      have z0 : w4.cell? ⟨w3.heap.size, 0, none⟩ = some (.string q.f0) := cell_of_row w4 _ 0 _ _ _ g4
      have z1 : w4.cell? ⟨w3.heap.size, 1, none⟩ = some (.string q.f1) := cell_of_row w4 _ 1 _ _ _ g4
      have J4 : J (bkL d k) w4 := HJ.out _ _ _ none JS.out (grown_of_below b4) (fun r e => by cases e)
      have C4 := Lib.hid ((b4.cell (p := ⟨Bd, 0, none⟩) (World.block_lt_of_cell? wr _ CX.out)).trans CX.out)
      obtain ⟨fn, tmps, assign, body, hy, hR⟩ := HY.out _ (k, q) w4 J4 (by rw [bkL_length]; exact hlt)
      dsimp only [encB] at hy
      have hR2 := hR.mono (R' := fun e W' => (e = .returned (.bool true) ∧ RowKit.Hid (J (bkL d k ++ [(k, q)]) W' ∧ KpB n₀ Bd w4 W')) ∨ (e = .returned (.bool false) ∧ RowKit.Hid (Jx (bkL d k ++ [(k, q)]) W'))) (by
        rintro e W' (⟨h1, h2, h3⟩ | ⟨h1, h2⟩)
        · exact .inl ⟨h1, Lib.hid ⟨h2, h3⟩⟩
        · exact .inr ⟨h1, Lib.hid h2⟩)
      clear hcx hw4 hb3 b4 g4 J4 hR hof
      gi_wp2
      refine hR2.mono ?_
      rintro e w5 (⟨rfl, h5⟩ | ⟨rfl, h5⟩)
      · gi_wp2
        go_roundw
        case rel =>
          refine ⟨k + 1, by omega, by first | rfl | go_num, ?_, h5.out.2.2 _ C4.out⟩
          rw [bkL_succ, ← hq.out]
          exact h5.out.1
        case measure => simp [intOf]; omega
      · gi_wp2
        refine bodyPost_ret (results_none rfl _ _ _) rfl ?_
        refine ⟨⟨_, rfl⟩, .inr ⟨_, ⟨k + 1, by omega, ?_⟩, h5.out⟩⟩
        rw [bkL_succ, ← hq.out]
    · obtain rfl : k = cn := by omega
      have hlt' : ¬ ((k : Int) < (k : Int)) := by omega
      have JS := Lib.hid hJs
      clear hJs
      gi_wp2
      go_end0
      exact ⟨⟨_, rfl⟩, .inl ⟨_, rfl, JS.out⟩⟩
theorem all_stops (n : Nat) (hn : 1 ≤ n) (Bd n₀ : Nat) (d : Int) (hd : d = 1 ∨ d = 2 ∨ d = 3) (w : World) (hB : Bd < w.heap.size) (hc : w.cell? ⟨Bd, 0, none⟩ = some (.int .i64 d)) :
    SeqStopsK Fence.wide n Tryd.prog 34 #[.pointer (some ⟨Bd, 0, none⟩)] encB (KpB n₀ Bd) (fun ys => ys = bkL d (cntN d)) (fun pre => ∃ k, k ≤ cntN d ∧ pre = bkL d k) (cntN d) w := fun l J Jx W hW hJ _ hY h0 => by
  have h := all1_in n hn l Bd n₀ d hd J Jx W.heap.size hJ hY W ((hW.cell (p := ⟨Bd, 0, none⟩) hB).trans hc) h0
  exact h
/-! #### Buckets -/
theorem cells_own {β : Type} (B : Nat) (o : Obj) (ho : o.isCells = true) : Go.Own (fun (_ : β) (W : World) => W.heap[B]? = some o) := by
  intro s X Y row hs hg hr
  have hlt : B < X.heap.size := (Array.getElem?_eq_some_iff.1 hs).1
  refine (hg.block B hlt (fun e => ?_)).trans hs
  obtain ⟨o', ho', hc⟩ := hr B e.symm
  rw [hs] at ho'
  injection ho' with ho'
  rw [← ho', ho] at hc
  cases hc
theorem appended2 {W w1 : World} {n₀ nb B Bd : Nat} {t e : TypeId} {size : Nat} {v v' : Value} {k m : Nat} {xs ys : List Value} {tmp : Obj}
    (hv : Boxed W B t v) (hte : t ≠ e) (hrow : W.ownsRow nb e size v k xs) (hn₀ : n₀ ≤ W.heap.size) (hB : n₀ ≤ B) (hnb : n₀ ≤ nb) (hBd : Bd < nb) (hne : Bd ≠ B)
    (hown' : w1.ownsRow nb e size v' m ys) (hgrow : (W.alloc tmp).grownBy w1 v.ownBlock) :
    Boxed w1 B t v ∧ Boxed (w1.setCell ⟨B, 0, none⟩ v') B t v' ∧ (w1.setCell ⟨B, 0, none⟩ v').ownsRow nb e size v' m ys ∧ KeepsOthers W (w1.setCell ⟨B, 0, none⟩ v') ∧ KpB n₀ Bd W (w1.setCell ⟨B, 0, none⟩ v') ∧ W.heap.size ≤ w1.heap.size ∧ ∀ b, b < nb → b < W.heap.size → b ≠ B → (w1.setCell ⟨B, 0, none⟩ v').heap[b]? = W.heap[b]? := by
  have hv1 : Boxed w1 B t v := (hv.alloc tmp).kept hgrow (hv.not_row hte hrow)
  have hrb : ∀ j, v.ownBlock = some j → nb ≤ j := by
    intro j ej
    rcases hrow.2 with ⟨rfl, _⟩ | ⟨g, cap, cur, rfl, hb, _, _⟩
    · simp [Value.ownBlock] at ej
    · obtain rfl : g = j := by simpa [Value.ownBlock] using ej
      exact hb
  have hsz : W.heap.size ≤ w1.heap.size := Nat.le_trans (by rw [World.size_alloc]; omega) hgrow.size
  have hblk : ∀ b, b < nb → b < W.heap.size → b ≠ B → (w1.setCell ⟨B, 0, none⟩ v').heap[b]? = W.heap[b]? := by
    intro b h1 h2 h3
    have e1 := (grownBy_setCell' w1 B v').block b (by omega) (fun e => h3 (by injection e))
    have e2 := hgrow.block b (by rw [World.size_alloc]; omega) (fun e => by have := hrb b e.symm; omega)
    have e3 := (World.grownBy_alloc W tmp none).block b h2 (by simp)
    exact e1.trans (e2.trans e3)
  refine ⟨hv1, hv1.set v', hown'.kept (grownBy_setCell' w1 B v') (.inr (hv1.not_row hte hown').symm), ?_, ⟨?_, fun u hu => ?_⟩, hsz, hblk⟩
  · refine ((KeepsOthers.alloc W tmp).trans (KeepsOthers.of_grownBy hgrow fun j o ej hj => ?_)).trans (KeepsOthers.setCell _ _ _)
    rcases (hrow.alloc tmp).2 with ⟨rfl, _⟩ | ⟨g, cap, cur, rfl, _, hgb, _⟩
    · simp [Value.ownBlock] at ej
    · obtain rfl : g = j := by simpa [Value.ownBlock] using ej
      rw [hgb] at hj; cases hj; rfl
  · exact (((Below.refl n₀ W).alloc hn₀ tmp).grown hgrow (by rw [World.size_alloc]; omega) fun j ej => Nat.le_trans hnb (hrb j ej)).setCell (p := ⟨B, 0, none⟩) hB v'
  · have hlt := World.block_lt_of_cell? W _ hu
    unfold World.cell? at hu ⊢
    rw [hblk Bd hBd hlt hne]
    exact hu
theorem own_mono {w : World} {base base' : Nat} {e : TypeId} {size : Nat} {v : Value} {n : Nat} {xs : List Value} (h : w.ownsRow base e size v n xs) (hb : base' ≤ base) : w.ownsRow base' e size v n xs :=
  ⟨h.1, h.2.imp id fun ⟨g, c, cur, hv, hg, hr⟩ => ⟨g, c, cur, hv, Nat.le_trans hb hg, hr⟩⟩
def wantB (M : List S27) (x : Nat × S27) : Bool := decide (0 < M.length) && meetsB M x.2
def outB (M : List S27) (pre : List (Nat × S27)) : List Int := (pre.filter (wantB M)).map fun x => (x.1 : Int)
theorem outB_snoc (M : List S27) (pre : List (Nat × S27)) (x : Nat × S27) : outB M (pre ++ [x]) = outB M pre ++ (if wantB M x = true then [(x.1 : Int)] else []) := by
  unfold outB
  rw [List.filter_append, List.map_append]
  cases h : wantB M x <;> simp [List.filter_cons, h]
theorem outB_len (M : List S27) (pre : List (Nat × S27)) : (outB M pre).length ≤ pre.length := by
  unfold outB
  rw [List.length_map]
  exact List.length_filter_le _ _
set_option maxRecDepth 100000 in
set_option maxHeartbeats 8000000 in
theorem buckets_yes (w : World) (A : Option Addr) (c : Nat) (d : Int) (l : List S27) (hd : d = 1 ∨ d = 2 ∨ d = 3) (hr : Kd.C k27 w A l.length l) (hc : l.length ≤ c) (hl : l.length ≤ 67108864) :
    Calls Tryd.prog 13 #[.int .i64 d, .slice A l.length c] w fun e w' => ∃ v, e = .returned (.tuple #[v, .int .i64 0]) ∧ Kd.R (Kd.int .i64) 3 w' w.heap.size (fun _ => True) v (outB (mergeF l) (bkL d (cntN d))) ∧ Below w.heap.size w w' := by
  obtain ⟨hcnt, -, hc0, hc1, -⟩ := count_in d hd
  have hcount := fun W' => span_count.calls 6 d (cntN d : Int) W' hcnt
  have hne : (((cntN d : Nat) : Int) == 0) = false := beq_eq_false_iff_ne.2 (by omega)
  have hmer := fun W' (hb : Below w.heap.size w W') => merged_any W' A c l (Kd.C_below hr hb) hc (by omega)
  obtain ⟨M, hM⟩ : ∃ M, RowKit.Hid (M = mergeF l) := ⟨_, Lib.hid rfl⟩
  have lM : RowKit.Hid (M.length ≤ 67108864) := Lib.hid (by rw [hM.out]; exact Nat.le_trans (mergeF_len l) hl)
  have nM : RowKit.Hid (Texts.NF (M.map pR)) := Lib.hid (by rw [hM.out]; exact mergeF_nf l)
  have hmer2 : ∀ W', Below w.heap.size w W' → Calls Tryd.prog 38 #[.slice A l.length c] W' fun e w' => ∃ v0, e = .returned v0 ∧ Kd.R k27 27 w' W'.heap.size (fun _ => True) v0 M ∧ Below W'.heap.size W' w' := by
    intro W' hb; rw [hM.out]; exact hmer W' hb
  rw [← hM.out]
  have HM := Lib.hid hmer2
  have HC := Lib.hid hcount
  have HD := Lib.hid hd
  have CN := Lib.hid (And.intro hc0 hc1)
  obtain ⟨cn, hcn⟩ : ∃ cn, RowKit.Hid (cn = cntN d) := ⟨_, Lib.hid rfl⟩
  rw [← hcn.out] at hne HC ⊢
  obtain ⟨ln, hln⟩ : ∃ ln, RowKit.Hid (ln = l.length) := ⟨_, Lib.hid rfl⟩
  rw [← hln.out] at HM ⊢
  clear hcnt hcount hmer hmer2 hd hc0 hc1 hr hc hl
  refine (callsIn_wide (n := 10)).1 (callsIn_of_wp_marks Tryd.func13 rfl trivial ?_ rfl)
  simp only [Tryd.ntmps13, List.size_toArray, List.length_cons, List.length_nil, Nat.reduceAdd, Nat.reduceSub, Array.replicate_succ, Array.replicate_zero, List.push_toArray, List.append_toArray, List.nil_append, List.cons_append]
  gi_wp2_with (first
    | (refine ⟨trivial, ?_⟩; gi_at_call 35; refine (callsIn_wide.2 (HC.out _)).mono ?_; rintro e w' ⟨rfl, ⟨nd, rfl⟩⟩)
    | (refine ⟨trivial, ?_⟩; gi_at_call 38; refine (callsIn_wide.2 (HM.out _ (pw_below_drewN (Below.refl _ _) nd))).mono ?_; rintro e w3 ⟨v3, rfl, hR3, hb3⟩; obtain ⟨A3, c3, rfl, hc3, hC3⟩ := Kd.R_reads hR3; have F3 := Lib.hid (And.intro hC3 (And.intro hc3 hb3)); clear hR3 hb3 hc3 hC3)
    | (refine ⟨trivial, ?_⟩; gi_at_call 9; refine (all_in _ _ _).mono ?_; rintro e w' ⟨rfl, rfl⟩))
  have b3 : RowKit.Hid (Below w.heap.size w w3) := Lib.hid ((pw_below_drewN (Below.refl _ _) nd).trans F3.out.2.2)
  obtain ⟨n3, hn3⟩ : ∃ n3, RowKit.Hid (n3 = w3.heap.size) := ⟨_, Lib.hid rfl⟩
  have bR := ((Boxed.new w3 35 (.slice A3 M.length c3)).alloc (.cells #[.slice none 0 0] 37)).alloc (.cells #[.int .i64 d] 3)
  have bO := (Boxed.new (w3.alloc (.cells #[.slice A3 M.length c3] 35)) 37 (.slice none 0 0)).alloc (.cells #[.int .i64 d] 3)
  have bD := Boxed.new ((w3.alloc (.cells #[.slice A3 M.length c3] 35)).alloc (.cells #[.slice none 0 0] 37)) 3 (.int .i64 d)
  simp only [World.size_alloc] at bR bO bD
  have hB0 : Below w3.heap.size w3 (((w3.alloc (.cells #[.slice A3 M.length c3] 35)).alloc (.cells #[.slice none 0 0] 37)).alloc (.cells #[.int .i64 d] 3)) := (((Below.refl _ w3).alloc (Nat.le_refl _) _).alloc (by simp) _).alloc (by simp; omega) _
  have hsz : (((w3.alloc (.cells #[.slice A3 M.length c3] 35)).alloc (.cells #[.slice none 0 0] 37)).alloc (.cells #[.int .i64 d] 3)).heap.size = w3.heap.size + 3 := by simp
  obtain ⟨W0, hW0⟩ : ∃ W0, ((w3.alloc (.cells #[.slice A3 M.length c3] 35)).alloc (.cells #[.slice none 0 0] 37)).alloc (.cells #[.int .i64 d] 3) = W0 := ⟨_, rfl⟩
  rw [hW0] at bR bO bD hB0 hsz ⊢
  clear hW0
  rw [← hn3.out] at bR bO bD hB0 hsz ⊢
  refine wpIn_rangeFunc_ownH (F := Fence.wide) rfl (by omega) (gf := 34) (lb := #[.pointer (some ⟨n3 + 1 + 1, 0, none⟩)]) rfl trivial (enters_of Tryd.func34 (by kernel_rfl) rfl)
    (all_stops 9 (by omega) (n3 + 1 + 1) n3 d HD.out W0 (by omega) bD.cell) (fun h k => KpB.trans h k) (fun W l o o' hl ho hc hw => KpB.put (w := W0) (by omega) W l o o' hl ho hc hw) (Below.refl _ _) (fun _ => rfl)
    (fun pre W => ((∃ v, Boxed W (n3 + 1) 37 v ∧ W.ownsRow (n3 + 3) 3 1 v (outB M pre).length ((outB M pre).map (Value.int .i64)) ∧ True) ∧ Boxed W n3 35 (.slice A3 M.length c3)) ∧ Below n3 w3 W)
    (fun _ _ _ => False)
    (OwnFrom.and (OwnFrom.and (Own.from (holdsRow_own (n3 + 3) (n3 + 1) 37 3 1 (fun pre => (outB M pre).length) (fun pre => (outB M pre).map (Value.int .i64)) (fun _ _ => True)) _) (Own.from (boxed_own _ _ _) _)) (ownFrom_below (by rw [hn3.out]; exact Nat.le_refl _) (by omega)))
    (fun _ _ _ _ _ hs _ _ => hs)
    ⟨⟨⟨_, bO, World.ownsRow_nil .., trivial⟩, bR⟩, hB0⟩
    (fun x a' W => ∃ Bx, n3 + 1 < Bx ∧ W.heap[Bx]? = some (.cells #[.string x.2.f0, .string x.2.f1] 27 (0, 0)) ∧ a' = { tmps := #[.int .i64 d, .slice A ln c, undef, undef, .slice none 0 0, .int .i64 0, .pointer (some ⟨n3, 0, none⟩), .pointer (some ⟨n3 + 1, 0, none⟩), .int .i64 (x.1 : Int), .pointer (some ⟨Bx, 0, none⟩), .int .i64 d, .int .i64 (cn : Int), .bool false, .slice A ln c, .slice A3 M.length c3, .int .i64 d, .func (.func 34) #[] #[.pointer (some ⟨n3 + 1 + 1, 0, none⟩)], .int .i64 (x.1 : Int), .agg #[.string x.2.f0, .string x.2.f1], undef, undef, undef, undef, undef, undef, undef, undef, undef, undef, undef, undef, undef], defers := [] })
    (fun x a' _ X Y row hs hg hr => by obtain ⟨Bx, h1, h2, h3⟩ := hs; exact ⟨Bx, h1, cells_own Bx _ rfl () X Y row h2 hg (fun r e => (hr r e).2), h3⟩)
    ?assign ?body ?done ?stop
  case assign =>
    rintro l pre x W K ⟨⟨⟨v, bO1, hO1, -⟩, bR1⟩, hB1⟩ hK
    simp only [encB]
    gi_wp2
    refine hK _ _ ((KeepsOthers.alloc _ _).from _) (KpB.below ((Below.refl _ W).alloc (Nat.le_refl _) _) (by rw [hn3.out]; exact hB1.size)) ⟨⟨⟨v, bO1.alloc _, hO1.alloc _, trivial⟩, bR1.alloc _⟩, hB1.alloc (by rw [hn3.out]; exact hB1.size) _⟩ ⟨W.heap.size, bO1.lt, heap_alloc_new W _, rfl⟩
  case body =>
    rintro l pre x a' W hlW ⟨rr, hrr⟩ ⟨⟨⟨v, bO1, hO1, -⟩, bR1⟩, hB1⟩ ⟨Bx, hBx, hX, rfl⟩ hlt
    have cR := bR1.cell
    have cO := bO1.cell
    have fO := bO1.frozen
    have hsW := hB1.size
    have hCM : RowKit.Hid (Kd.C k27 W A3 M.length M) := Lib.hid (Kd.C_below F3.out.1 (by rw [← hn3.out]; exact hB1))
    have hmt := fun W' (hb : Below W.heap.size W W') => meets_any W' A3 c3 M x.2 (Kd.C_below hCM.out hb) (by have := lM.out; omega) nM.out
    have hsn := outB_snoc M pre x
    have hol := outB_len M pre
    have hpl : pre.length < 4096 := Nat.lt_of_lt_of_le hlt CN.out.2
    obtain ⟨xb, q⟩ := x
    simp only at hX hmt hsn ⊢
    have z0 : W.cell? ⟨Bx, 0, none⟩ = some (.string q.f0) := cell_of_row W _ 0 _ _ _ hX
    have z1 : W.cell? ⟨Bx, 1, none⟩ = some (.string q.f1) := cell_of_row W _ 1 _ _ _ hX
    obtain ⟨wb, hwb⟩ : ∃ wb, RowKit.Hid (wb = wantB M (xb, q)) := ⟨_, Lib.hid rfl⟩
    rw [← hwb.out] at hsn
    obtain ⟨mb, hmb⟩ : ∃ mb, RowKit.Hid (mb = meetsB M q) := ⟨_, Lib.hid rfl⟩
    rw [← hmb.out] at hmt
    have hwb2 : RowKit.Hid (wb = (decide (0 < M.length) && mb)) := Lib.hid (by rw [hwb.out, hmb.out]; rfl)
    have S := Lib.hid (And.intro bO1 (And.intro hO1 (And.intro bR1 (And.intro hB1 hsn))))
    have MT := Lib.hid hmt
    have HL := Lib.hid (And.intro hol hpl)
    clear bO1 hO1 bR1 hB1 hsn hmt hlt hX hol hpl
    obtain ⟨i0, hi0, hz0, hz1, hz2⟩ := info_parts info3
    have fin0 : ∀ (ac : Act) (w7 : World), Below W.heap.size W w7 → wb = false → ownPostG W0.heap.size (KpB n3 (n3 + 1 + 1)) (fun pre W => ((∃ v, Boxed W (n3 + 1) 37 v ∧ W.ownsRow (n3 + 3) 3 1 v (outB M pre).length ((outB M pre).map (Value.int .i64)) ∧ True) ∧ Boxed W n3 35 (.slice A3 M.length c3)) ∧ Below n3 w3 W) (fun _ _ _ => False) (pre ++ [(xb, q)]) W .normal ac w7 := by
      intro ac w7 hb7 hwf
      have hsn := S.out.2.2.2.2
      rw [hwf, if_neg (by decide), List.append_nil] at hsn
      have hg := grown_of_below hb7
      refine ⟨KeepsFrom.of_grownBy hg (fun j e => by cases e), KpB.below hb7 (by rw [hn3.out]; exact hsW), ?_⟩
      dsimp only
      rw [hsn]
      exact ⟨⟨⟨v, S.out.1.kept hg (by simp), pw_own_below S.out.2.1 hb7, trivial⟩, S.out.2.2.1.kept hg (by simp)⟩, S.out.2.2.2.1.trans (hb7.mono (by rw [hn3.out]; exact hsW))⟩
    have FIN := Lib.hid fin0
    clear fin0
    by_cases hM0 : 0 < M.length
    · have t0 : decide ((M.length : Int) > 0) = true := decide_eq_true (by omega)
      cases mb with
      | false =>
        gi_wp2_with (first
          | (refine ⟨trivial, ?_⟩; gi_at_call 39; refine (CallsIn.inRound l (callsIn_wide.2 (MT.out _ (Below.refl _ _)))).mono ?_; rintro e w7 ⟨rfl, hb7⟩; have Hb7 := Lib.hid hb7; clear hb7))
        exact FIN.out _ w7 Hb7.out (by rw [hwb2.out]; simp)
      | true =>
        have hsn := S.out.2.2.2.2
        rw [hwb2.out, decide_eq_true hM0, Bool.true_and, if_pos rfl] at hsn
        have SN := Lib.hid hsn
        clear hsn
        gi_upto_region 9 with (first
          | (refine ⟨trivial, ?_⟩; gi_at_call 39; refine (CallsIn.inRound l (callsIn_wide.2 (MT.out _ (Below.refl _ _)))).mono ?_; rintro e w7 ⟨rfl, hb7⟩; have Hb7 := Lib.hid hb7; clear hb7))
        have hg7 := grown_of_below Hb7.out
        have v7 := S.out.1.kept hg7 (by simp)
        have hrow7 := pw_own_below S.out.2.1 Hb7.out
        have cO7 := v7.cell
        have V7 := Lib.hid (And.intro v7 hrow7)
        have hs7 := Hb7.out.size
        have n7 : n3 + 3 ≤ w7.heap.size := by
          have h1 : l < W.heap.size := (Array.getElem?_eq_some_iff.1 hrr).1
          omega
        have LL : RowKit.Hid ((outB M pre).length + 1 ≤ 4097) := Lib.hid (by have h1 := HL.out.1; have h2 := HL.out.2; omega)
        clear hg7 v7 hrow7 cO fO z0 z1 cR
        gi_wp2_with (first
          | (gi_at_builtin; refine wpListIn_append_own _ rfl _ _ 37 rfl (n3 + 3) 3 i0 (.int .i64 0) 1 8 Tryd.underlying37 hi0 hz0 hz1 hz2 rfl (by decide) _ _ _ rfl (V7.out.2.alloc _) ⟨w7.heap.size, 0, none⟩ 1 1 [.int .i64 (xb : Int)] rfl rfl (cell_one_new _ _ _) (by simp [Value.oneCell']) (by have := LL.out; unfold maxLen; omega) (by have := LL.out; omega) (by rw [World.size_alloc]; omega) ?_; intro v' w8 hown' hgrow _; obtain ⟨g', cap', rfl⟩ := ownsRow_succ hown'; have AP := Lib.hid (appended2 (n₀ := n3) (Bd := n3 + 1 + 1) V7.out.1 (by decide) V7.out.2 (by omega) (by omega) (by omega) (by omega) (by omega) hown' hgrow); have hc1 := AP.out.1.cell; have hf1 := AP.out.1.frozen; clear hown' hgrow))
        refine ⟨KeepsFrom.trans (KeepsFrom.of_grownBy (grown_of_below Hb7.out) (fun j e => by cases e)) (AP.out.2.2.2.1.from _), KpB.trans (KpB.below Hb7.out (by rw [hn3.out]; exact hsW)) AP.out.2.2.2.2.1, ?_⟩
        dsimp only
        rw [SN.out, List.length_append, List.map_append]
        refine ⟨⟨⟨_, AP.out.2.1, AP.out.2.2.1, trivial⟩, ?_⟩, (S.out.2.2.2.1.trans (Hb7.out.mono (by rw [hn3.out]; exact hsW))).trans AP.out.2.2.2.2.1.1⟩
        exact (AP.out.2.2.2.2.2.2 n3 (by omega) (by omega) (by omega)).trans (S.out.2.2.1.kept (grown_of_below Hb7.out) (by simp))
    · have t0 : decide ((M.length : Int) > 0) = false := decide_eq_false (by omega)
      gi_wp2_with (first
        | (refine ⟨trivial, ?_⟩))
      exact FIN.out _ W (Below.refl _ _) (by rw [hwb2.out, decide_eq_false hM0]; rfl)
  case done =>
    rintro D ys W hD rfl ⟨⟨⟨v, bO1, hO1, -⟩, bR1⟩, hB1⟩ hK
    have cO := bO1.cell
    have fO := bO1.frozen
    gi_wp2
    refine ⟨by simp, .inl ⟨_, _, rfl, run_takeDeferred hK, ?_⟩⟩
    have hbD : Below n3 W (W.putObj D (.deferred none)) := belowK_b (w := W0) (by omega) W D _ _ hD hK rfl rfl
    have hown := ownsRow_putObj hO1 (.deferred none) hK rfl
    refine ⟨_, results_tmp2 rfl _ _ _, ⟨_, rfl, ?_, ?_⟩⟩
    · have hwn : w.heap.size ≤ n3 := by have := b3.out.size; rw [hn3.out]; exact this
      rw [hcn.out]
      exact Kd.R_of_own (own_mono hown (by omega)) (fun _ _ => trivial)
    · have h3 := b3.out
      rw [hn3.out] at hB1 hbD
      exact h3.trans ((hB1.trans hbD).mono h3.size)
  case stop =>
    rintro D c pre W _ _ h _
    exact h.elim
set_option maxRecDepth 100000 in
theorem buckets_no (w : World) (A : Option Addr) (c : Nat) (d : Int) (n : Nat) (hd : ¬ (d = 1 ∨ d = 2 ∨ d = 3)) :
    Calls Tryd.prog 13 #[.int .i64 d, .slice A n c] w fun e w' => e = .returned (.tuple #[.slice none 0 0, .int .i64 61]) ∧ Below w.heap.size w w' := by
  have hcount := fun W' => span_count.calls 6 d 0 W' (count_out d hd).1
  clear hd
  go_enter Tryd.func13, Tryd.ntmps13
  go_wp2_with (first
    | (go_at_call 35; refine (hcount _).mono ?_; rintro e w' ⟨rfl, ⟨nd, rfl⟩⟩))
  go_ret2
  exact ⟨rfl, by first | exact Below.refl _ _ | exact pw_below_drewN (Below.refl _ _) _⟩
def outsF (d : Int) (l : List S27) : List Int := if d = 1 ∨ d = 2 ∨ d = 3 then outB (mergeF l) (bkL d (cntN d)) else []
def errF (d : Int) : Int := if d = 1 ∨ d = 2 ∨ d = 3 then 0 else 61
theorem buckets_any (w : World) (A : Option Addr) (c : Nat) (d : Int) (l : List S27) (hr : Kd.C k27 w A l.length l) (hc : l.length ≤ c) (hl : l.length ≤ 67108864) :
    Calls Tryd.prog 13 #[.int .i64 d, .slice A l.length c] w fun e w' => ∃ v, e = .returned (.tuple #[v, .int .i64 (errF d)]) ∧ Kd.R (Kd.int .i64) 3 w' w.heap.size (fun _ => True) v (outsF d l) ∧ Below w.heap.size w w' := by
  unfold outsF errF
  by_cases hd : d = 1 ∨ d = 2 ∨ d = 3
  · rw [if_pos hd, if_pos hd]
    exact buckets_yes w A c d l hd hr hc hl
  · rw [if_neg hd, if_neg hd]
    refine (buckets_no w A c d l.length hd).mono ?_
    rintro e w' ⟨rfl, hb⟩
    exact ⟨_, rfl, Kd.R_nil _ _ _ _ _, hb⟩
def span_Buckets.f (a0 : Int) (l1 : List (S27)) : Option (List Int × Int) := if l1.length ≤ 67108864 then some (outsF a0 l1, errF a0) else none
theorem span_Buckets.calls (a0 : Int) (A1 : Option Addr) (c1 : Nat) (l1 : List (S27)) (r1 : List Int) (r2 : Int) (w : World) (hr1 : Kd.C k27 w A1 l1.length l1) (hc1 : l1.length ≤ c1) (h : span_Buckets.f a0 l1 = some (r1, r2)) :
    Calls Tryd.prog 13 #[.int .i64 a0, .slice A1 l1.length c1] w fun e w' => ∃ v0_ : Value, e = .returned (.tuple #[v0_, .int .i64 r2]) ∧ Kd.R (Kd.int .i64) 3 w' w.heap.size (fun _ => True) v0_ r1 ∧ Below w.heap.size w w' := by
  unfold span_Buckets.f at h
  split at h
  · rename_i he
    obtain ⟨rfl, rfl⟩ := Prod.mk.inj (Option.some.inj h)
    exact buckets_any w A1 c1 a0 l1 hr1 hc1 he
  · cases h

end Go.Proofs.YtmjmjjhfficilaaDoor.PSpanBack

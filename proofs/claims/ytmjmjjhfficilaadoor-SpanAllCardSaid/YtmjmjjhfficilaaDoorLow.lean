/- What is proved: contracts of functions that the law uses, each under the conditions that its theorem states. -/
import Derived.Test.YtmjmjjhfficilaaDoorPSpanTouchesx0
import Derived.Test.YtmjmjjhfficilaaDoorPSpanTouchesx1
import Derived.Test.YtmjmjjhfficilaaDoorPSpanTouchesx2
import Derived.Test.YtmjmjjhfficilaaDoorPSpanTouchesx3
import Derived.Test.YtmjmjjhfficilaaDoorPSpanTouchesx4
import Derived.Test.YtmjmjjhfficilaaDoorPSpanTouchesx5
import Derived.Test.YtmjmjjhfficilaaDoorPSpanTouchesx6
namespace Go.Proofs.YtmjmjjhfficilaaDoor.PSpanTouches
open Go.RowKit Go.Proofs.YtmjmjjhfficilaaDoorW.PrintWords Go.Proofs.YtmjmjjhfficilaaDoorW.PrintLast Go.Proofs.YtmjmjjhfficilaaDoorW.PrintMore
set_option linter.unusedVariables false
set_option linter.unusedSimpArgs false
/-! #### buckets' least texts -/
def lowN (d : Int) (x : Nat) : List Nat := if x = 0 then [] else if d = 1 then [x * 16] else if d = 2 then [x] else if x % 16 = 0 then [x / 16] else [x / 16, x % 16 * 16]
def lowL (d : Int) (x : Nat) : List UInt8 := (lowN d x).map UInt8.ofNat
def okAt (d : Int) (b : Nat) : Bool := match span_least.f d b, hawserref06_least.f 19 d b with
  | some x, some y => x.data.toList == lowL d b && y.data.toList == lowL d b
  | _, _ => false
theorem least_1 : (List.range 16).all (okAt 1) = true := by decide +kernel
theorem least_2 : (List.range 256).all (okAt 2) = true := by decide +kernel
theorem least_3 : (List.range 4096).all (okAt 3) = true := by decide +kernel
def mkB (l : List UInt8) : ByteArray := ⟨l.toArray⟩
theorem mkB_list (l : List UInt8) : (mkB l).toList = l := by rw [ByteArray.toList_eq]; simp [mkB]
theorem eq_mkB {x : ByteArray} {l : List UInt8} (h : x.data.toList = l) : x = mkB l := by
  subst h
  cases x
  simp [mkB]
theorem ok_of {d : Int} {b : Nat} (h : okAt d b = true) : span_least.f d b = some (mkB (lowL d b)) ∧ hawserref06_least.f 19 d b = some (mkB (lowL d b)) := by
  unfold okAt at h
  split at h
  · rename_i x y h1 h2
    rw [Bool.and_eq_true] at h
    rw [h1, h2, eq_mkB (eq_of_beq h.1), eq_mkB (eq_of_beq h.2)]
    exact ⟨rfl, rfl⟩
  · cases h
def cntN (d : Int) : Nat := if d = 1 then 16 else if d = 2 then 256 else 4096
theorem leasts (d : Int) (b : Nat) (hd : d = 1 ∨ d = 2 ∨ d = 3) (h : b < cntN d) : span_least.f d b = some (mkB (lowL d b)) ∧ hawserref06_least.f 19 d b = some (mkB (lowL d b)) := by
  rcases hd with rfl | rfl | rfl
  · exact ok_of (List.all_eq_true.1 least_1 b (List.mem_range.2 h))
  · exact ok_of (List.all_eq_true.1 least_2 b (List.mem_range.2 h))
  · exact ok_of (List.all_eq_true.1 least_3 b (List.mem_range.2 h))
theorem count_in (d : Int) (hd : d = 1 ∨ d = 2 ∨ d = 3) : span_count.f 6 d = some (cntN d : Int) ∧ hawserref06_count.f 6 d = some (cntN d : Int) ∧ 0 < cntN d ∧ cntN d ≤ 4096 ∧ cntD d = cntN d := by
  rcases hd with rfl | rfl | rfl <;> exact ⟨by decide +kernel, by decide +kernel, by decide, by decide, by decide⟩
theorem count_out (d : Int) (hd : ¬ (d = 1 ∨ d = 2 ∨ d = 3)) : span_count.f 6 d = some 0 ∧ hawserref06_count.f 6 d = some 0 := by
  unfold span_count.f hawserref06_count.f
  by_cases h1 : d < 1
  · rw [if_pos h1, if_pos h1]
    exact ⟨rfl, rfl⟩
  · have h2 : decide (d > 3) = true := decide_eq_true (by omega)
    rw [if_neg h1, if_neg h1, h2]
    exact ⟨rfl, rfl⟩
theorem count_up (d r : Int) (h : span_count.f 6 d = some r) : ∀ n, span_count.f (6 + n) d = some r
  | 0 => h
  | n + 1 => span_count.mono d (6 + n) _ (count_up d r h n)
theorem rcount_up (d r : Int) (h : hawserref06_count.f 6 d = some r) : ∀ n, hawserref06_count.f (6 + n) d = some r
  | 0 => h
  | n + 1 => hawserref06_count.mono d (6 + n) _ (rcount_up d r h n)
def hiL (d : Int) (b : Nat) : List UInt8 := if b + 1 < cntN d then lowL d (b + 1) else []
theorem w_succ (x : Nat) (h : x ≤ 4096) : wrap64 ((x : Int) + 1) = ((x + 1 : Nat) : Int) := IntWalk.wrap64_in _ (by omega)
theorem of_at (d : Int) (x : Nat) (hd : d = 1 ∨ d = 2 ∨ d = 3) (hx : x < cntN d) : ∀ n, span_Of.f (6 + n) d x = some (mkB (lowL d x), mkB (hiL d x), 0)
  | 0 => by
    obtain ⟨c1, -, c2, c3, c4⟩ := count_in d hd
    have hq : span_least.f d ((x + 1 : Nat) : Int) = some (mkB (hiL d x)) := by
      unfold hiL
      by_cases h3 : x + 1 < cntN d
      · rw [if_pos h3]
        exact (leasts d (x + 1) hd h3).1
      · rw [if_neg h3]
        unfold span_least.f
        rw [if_pos ⟨hd, by omega⟩, if_pos (by omega)]
        rfl
    unfold span_Of.f
    rw [c1, Option.bind_some, if_neg (by omega), if_neg (by omega), show decide ((x : Int) ≥ (cntN d : Int)) = false from decide_eq_false (by omega)]
    simp only [span_Of.j0, Bool.false_eq_true, if_false]
    rw [w_succ x (by omega), (leasts d x hd hx).1, Option.bind_some, hq]
    rfl
  | n + 1 => span_Of.mono d x (6 + n) _ (of_at d x hd hx n)
theorem of_bad (d b : Int) (hd : d = 1 ∨ d = 2 ∨ d = 3) (hb : b < 0 ∨ (cntN d : Int) ≤ b) : ∀ n, span_Of.f (6 + n) d b = some ((⟨#[]⟩ : ByteArray), (⟨#[]⟩ : ByteArray), 62)
  | 0 => by
    obtain ⟨c1, -, c2, c3, c4⟩ := count_in d hd
    unfold span_Of.f
    rw [c1, Option.bind_some, if_neg (by omega)]
    by_cases h : b < 0
    · rw [if_pos h]; rfl
    · rw [if_neg h, show decide (b ≥ (cntN d : Int)) = true from decide_eq_true (by omega)]; rfl
  | n + 1 => span_Of.mono d b (6 + n) _ (of_bad d b hd hb n)
theorem rof_at (d : Int) (x : Nat) (hd : d = 1 ∨ d = 2 ∨ d = 3) (hx : x < cntN d) : ∀ n, hawserref06_Of.f (20 + n) d x = some (mkB (lowL d x), mkB (hiL d x), 0)
  | 0 => by
    obtain ⟨-, c1, c2, c3, c4⟩ := count_in d hd
    have c1' := rcount_up d _ c1 14
    unfold hawserref06_Of.f
    rw [show 20 + 0 = 6 + 14 from rfl, c1', Option.bind_some, if_neg (by omega), if_neg (by omega), show decide ((x : Int) ≥ (cntN d : Int)) = false from decide_eq_false (by omega), show 6 + 14 = 19 + 1 from rfl]
    simp only [hawserref06_Of.j0, Bool.false_eq_true, if_false]
    rw [w_succ x (by omega), (leasts d x hd hx).2]
    unfold hiL
    by_cases h3 : x + 1 < cntN d
    · rw [if_pos (by omega), if_pos h3, (leasts d (x + 1) hd h3).2]
      rfl
    · rw [if_neg (by omega), if_neg h3]
      rfl
  | n + 1 => hawserref06_Of.mono d x (20 + n) _ (rof_at d x hd hx n)
theorem ofN (n : Nat) (h : n < 256) : (UInt8.ofNat n).toNat = n := by
  rw [UInt8.toNat_ofNat']; omega
theorem low_lt (d : Int) (x y : Nat) (hd : d = 1 ∨ d = 2 ∨ d = 3) (hx : x < cntN d) (hy : y < cntN d) : lessB (lowL d x) (lowL d y) = true ↔ x < y := by
  have one : ∀ a b : Nat, a < 256 → b < 256 → (lessB [UInt8.ofNat a] [UInt8.ofNat b] = true ↔ a < b) := by
    intro a b ha hb
    rw [lessB_cons, lessB_nil, ofN a ha, ofN b hb]
    simp
  by_cases y0 : y = 0
  · subst y0
    simp [lowL, lowN, lessB_nil]
  · by_cases x0 : x = 0
    · subst x0
      have hne : lowL d y ≠ [] := by
        unfold lowL lowN
        rw [if_neg y0]
        repeat' split
        all_goals simp
      have hx : lowL d 0 = [] := by simp [lowL, lowN]
      rw [hx]
      cases h : lowL d y with
      | nil => exact absurd h hne
      | cons a r => simp [nil_lessB]; omega
    · rcases hd with rfl | rfl | rfl
      · have hx' : x < 16 := hx
        have hy' : y < 16 := hy
        have e1 : lowL 1 x = [UInt8.ofNat (x * 16)] := by simp [lowL, lowN, x0]
        have e2 : lowL 1 y = [UInt8.ofNat (y * 16)] := by simp [lowL, lowN, y0]
        rw [e1, e2, one _ _ (by omega) (by omega)]
        omega
      · have hx' : x < 256 := hx
        have hy' : y < 256 := hy
        have e1 : lowL 2 x = [UInt8.ofNat x] := by simp [lowL, lowN, x0]
        have e2 : lowL 2 y = [UInt8.ofNat y] := by simp [lowL, lowN, y0]
        rw [e1, e2, one _ _ (by omega) (by omega)]
      · have hx' : x < 4096 := hx
        have hy' : y < 4096 := hy
        have a1 := ofN (x / 16) (by omega)
        have a2 := ofN (x % 16 * 16) (by omega)
        have b1 := ofN (y / 16) (by omega)
        have b2 := ofN (y % 16 * 16) (by omega)
        by_cases hx1 : x % 16 = 0
        · have e1 : lowL 3 x = [UInt8.ofNat (x / 16)] := by simp [lowL, lowN, x0, hx1]
          by_cases hy1 : y % 16 = 0
          · have e2 : lowL 3 y = [UInt8.ofNat (y / 16)] := by simp [lowL, lowN, y0, hy1]
            rw [e1, e2, one _ _ (by omega) (by omega)]
            omega
          · have e2 : lowL 3 y = [UInt8.ofNat (y / 16), UInt8.ofNat (y % 16 * 16)] := by simp [lowL, lowN, y0, hy1]
            rw [e1, e2, lessB_cons, nil_lessB, a1, b1]
            simp
            omega
        · have e1 : lowL 3 x = [UInt8.ofNat (x / 16), UInt8.ofNat (x % 16 * 16)] := by simp [lowL, lowN, x0, hx1]
          by_cases hy1 : y % 16 = 0
          · have e2 : lowL 3 y = [UInt8.ofNat (y / 16)] := by simp [lowL, lowN, y0, hy1]
            rw [e1, e2, lessB_cons, lessB_nil, a1, b1]
            simp
            omega
          · have e2 : lowL 3 y = [UInt8.ofNat (y / 16), UInt8.ofNat (y % 16 * 16)] := by simp [lowL, lowN, y0, hy1]
            rw [e1, e2, lessB_cons, lessB_cons, lessB_nil, a1, a2, b1, b2]
            simp
            omega
theorem low_nil (d : Int) (x : Nat) : lowL d x = [] ↔ x = 0 := by
  unfold lowL lowN
  by_cases h : x = 0
  · simp [h]
  · rw [if_neg h]
    repeat' split
    all_goals simp [h]
/-! #### meets -/
set_option maxRecDepth 100000 in
theorem cloM2 (x : S27) (k : ByteArray) (W : World) : Calls Tryd.prog 57 #[.agg #[.string x.f0, .string x.f1], .string k] W fun e w' => e = .returned (.int .i64 (Lib.compareBytes x.f0.data.toList k.data.toList)) ∧ Below W.heap.size W w' := by
  have hcon := fun W' => Any.strings_Compare Tryd.cmpS x.f0 k W'
  change ∀ W', Calls Tryd.prog 55 _ _ _ at hcon
  generalize Lib.compareBytes x.f0.data.toList k.data.toList = r at hcon ⊢
  go_enter Tryd.func57, Tryd.ntmps57
  go_wp2_with (go_at_call 55; refine (hcon _).mono ?_; rintro e w' ⟨rfl, rfl⟩)
  go_ret
  exact ⟨rfl, (Below.refl _ _).alloc (Nat.le_refl _) _⟩
set_option maxRecDepth 100000 in
set_option maxHeartbeats 8000000 in
theorem bs_any2 (w : World) (A : Option Addr) (c : Nat) (l : List S27) (key : ByteArray) (hr : Kd.C k27 w A l.length l) (hn : l.length ≤ 4294967296)
    (hs : ∀ a b : Nat, a ≤ b → b < l.length → cmpR l b key < 0 → cmpR l a key < 0) :
    Calls Tryd.prog 56 #[.slice A l.length c, .string key, .func (.func 57) #[] #[]] w (BsPost l l.length key w) := by
  obtain ⟨n, hN⟩ : ∃ n, RowKit.Hid (n = l.length) := ⟨_, Lib.hid rfl⟩
  have R := Lib.hid (And.intro hr hs)
  rw [← hN.out] at hn ⊢
  clear hr hs
  go_enter Tryd.func56, Tryd.ntmps56
  go_upto_region 3 with (fail)
  go_loopw [9, 10] (fun iv jv wr => ∃ i j : Nat, i ≤ j ∧ j ≤ n ∧ iv = .int .i64 i ∧ jv = .int .i64 j ∧ (∀ q, q < i → cmpR l q key < 0) ∧ (∀ q, j ≤ q → q < n → 0 ≤ cmpR l q key) ∧ Below w.heap.size w wr) (fun iv jv _ => (intOf jv - intOf iv).toNat)
  case atStart => exact ⟨0, n, by omega, by omega, rfl, rfl, fun q hq => by omega, fun q h1 h2 => by omega, Below.refl _ _⟩
  case round =>
    obtain ⟨i, j, hij, hj, rfl, rfl, hlo, hhi, hb⟩ := hrel
    have hz := hb.size
    by_cases hlt : i < j
    · have h1 : i ≤ (i + j) / 2 := by omega
      have h2 : (i + j) / 2 < j := by omega
      have u16 : (((i + j) / 2 : Nat) : Int) < (n : Int) := by omega
      obtain ⟨ad, eA, x0, x1⟩ := at_T27 (Kd.C_below R.out.1 hb) (((i + j) / 2 : Nat) : Int) (by omega) (by rw [← hN.out]; exact u16)
      simp only [Int.toNat_natCast] at x0 x1
      obtain ⟨r, hrr⟩ : ∃ r, RowKit.Hid (r = rd_T27 l (((i + j) / 2 : Nat) : Int)) := ⟨_, Lib.hid rfl⟩
      rw [← hrr.out] at x0 x1
      obtain ⟨v, hv⟩ : ∃ v, RowKit.Hid (v = cmpR l ((i + j) / 2) key) := ⟨_, Lib.hid rfl⟩
      have hclo : ∀ W, Calls Tryd.prog 57 #[.agg #[.string r.f0, .string r.f1], .string key] W fun e w' => e = .returned (.int .i64 v) ∧ Below W.heap.size W w' := by
        intro W
        rw [hv.out]
        unfold cmpR
        rw [← hrr.out]
        exact cloM2 r key W
      have s0 : (i : Int) < (j : Int) := by omega
      have s1 : (0 : Int) ≤ (i : Int) := by omega
      have s2 : (i : Int) ≤ 4294967296 := by omega
      have s3 : (j : Int) ≤ 4294967296 := by omega
      have s4 : (0 : Int) ≤ (j : Int) := by omega
      have H := Lib.hid (And.intro hlo (And.intro hhi (And.intro hb hz)))
      clear hlo hhi hb hz
      cases eA
      by_cases hc : v < 0
      · go_wp2_with (first
          | (go_at_call 57; refine (hclo _).mono ?_; rintro e w2 ⟨rfl, hb2⟩))
        refine ⟨⟨(i + j) / 2 + 1, j, by omega, hj, by go_num, rfl, fun q hq => ?_, H.out.2.1, H.out.2.2.1.trans (hb2.mono H.out.2.2.2)⟩, by simp [intOf]; omega⟩
        exact R.out.2 q ((i + j) / 2) (by omega) (by rw [← hN.out]; omega) (by rw [← hv.out]; exact hc)
      · go_wp2_with (first
          | (go_at_call 57; refine (hclo _).mono ?_; rintro e w2 ⟨rfl, hb2⟩))
        refine ⟨⟨i, (i + j) / 2, by omega, by omega, rfl, by go_num, H.out.1, fun q h3 h4 => ?_, H.out.2.2.1.trans (hb2.mono H.out.2.2.2)⟩, by simp [intOf]; omega⟩
        by_cases h5 : cmpR l q key < 0
        · have h6 : v < 0 := by rw [hv.out]; exact R.out.2 ((i + j) / 2) q h3 (by rw [← hN.out]; exact h4) h5
          omega
        · omega
    · obtain rfl : i = j := by omega
      have s0 : ¬ ((i : Int) < (i : Int)) := by omega
      by_cases hin : i < n
      · have u16 : (i : Int) < (n : Int) := by omega
        obtain ⟨ad, eA, x0, x1⟩ := at_T27 (Kd.C_below R.out.1 hb) (i : Int) (by omega) (by rw [← hN.out]; exact u16)
        simp only [Int.toNat_natCast] at x0 x1
        obtain ⟨r, hrr⟩ : ∃ r, RowKit.Hid (r = rd_T27 l (i : Int)) := ⟨_, Lib.hid rfl⟩
        rw [← hrr.out] at x0 x1
        obtain ⟨v, hv⟩ : ∃ v, RowKit.Hid (v = cmpR l i key) := ⟨_, Lib.hid rfl⟩
        have hclo : ∀ W, Calls Tryd.prog 57 #[.agg #[.string r.f0, .string r.f1], .string key] W fun e w' => e = .returned (.int .i64 v) ∧ Below W.heap.size W w' := by
          intro W
          rw [hv.out]
          unfold cmpR
          rw [← hrr.out]
          exact cloM2 r key W
        have H := Lib.hid (And.intro hlo (And.intro hhi (And.intro hb hz)))
        clear hlo hhi hb hz
        have l16 : (0 : Int) ≤ (i : Int) := by omega
        replace u16 := eq_true u16
        cases eA
        go_wp2_with (first
          | (go_at_call 57; refine (hclo _).mono ?_; rintro e w2 ⟨rfl, hb2⟩))
        go_ret2
        refine ⟨i, v == 0, by omega, H.out.1, H.out.2.1, ?_, rfl, H.out.2.2.1.trans (hb2.mono H.out.2.2.2)⟩
        have hv' := hv.out
        by_cases e0 : v = 0
        · rw [e0] at hv' ⊢
          rw [decide_eq_true (⟨hin, hv'.symm⟩ : i < n ∧ cmpR l i key = 0)]
          rfl
        · rw [decide_eq_false (fun h : i < n ∧ cmpR l i key = 0 => e0 (hv'.trans h.2))]
          exact beq_eq_false_iff_ne.2 e0
      · obtain rfl : i = n := by omega
        have H := Lib.hid (And.intro hlo hb)
        clear hlo hhi
        go_wp2
        go_ret2
        refine ⟨i, false, by omega, H.out.1, fun j h3 h4 => by omega, ?_, rfl, H.out.2⟩
        rw [decide_eq_false (fun h : i < i ∧ cmpR l i key = 0 => absurd h.1 (Nat.lt_irrefl i))]
def meetsB (l : List S27) (r : S27) : Bool := Texts.hasL (l.map pR) r.f0.toList || l.any (fun x => Texts.has (pR r) x.f0.toList)
/-- The first place whose range begins no earlier. -/
def FromPost (l : List S27) (key : ByteArray) (w : World) (e : Ending) (w' : World) : Prop := ∃ (i : Nat) (b : Bool), i ≤ l.length ∧ (∀ j, j < i → Op.bytesLess (rd_T27 l (j : Int)).f0.toList key.toList = true) ∧ (∀ j, i ≤ j → j < l.length → Op.bytesLess (rd_T27 l (j : Int)).f0.toList key.toList = false) ∧ e = .returned (.tuple #[.int .i64 i, .bool b]) ∧ Below w.heap.size w w'
theorem from_any (w : World) (A : Option Addr) (c : Nat) (l : List S27) (key : ByteArray) (hr : Kd.C k27 w A l.length l) (hn : l.length ≤ 4294967296) (hs : RisesR l) :
    Calls Tryd.prog 56 #[.slice A l.length c, .string key, .func (.func 57) #[] #[]] w (FromPost l key w) := by
  have hmono : ∀ a b : Nat, a ≤ b → b < l.length → cmpR l b key < 0 → cmpR l a key < 0 := by
    intro a b hab hb h
    rcases Nat.lt_or_ge a b with h1 | h1
    · unfold cmpR at h ⊢
      rw [cmp_lt, toList_data, toList_data] at h ⊢
      exact Texts.trans (hs a b h1 hb) h
    · obtain rfl : a = b := by omega
      exact h
  refine (bs_any2 w A c l key hr hn hmono).mono ?_
  rintro e w' ⟨i, b, hi, hlo, hhi, -, he, hb⟩
  refine ⟨i, b, hi, fun j hj => ?_, fun j h1 h2 => ?_, he, hb⟩
  · have h := hlo j hj
    unfold cmpR at h
    rw [cmp_lt, toList_data, toList_data] at h
    exact h
  · have h := hhi j h1 h2
    cases e : Op.bytesLess (rd_T27 l (j : Int)).f0.toList key.toList with
    | false => rfl
    | true =>
      rw [← toList_data, ← toList_data, ← cmp_lt] at e
      unfold cmpR at h
      omega
/-- What is left, when the beginning isn't in the list: the first range behind it. -/
theorem meets_rest {l : List S27} (h : Texts.NF (l.map pR)) {r : S27} {i : Nat} (hi : i ≤ l.length) (hlo : ∀ j, j < i → Op.bytesLess (rd_T27 l (j : Int)).f0.toList r.f0.toList = true) (hhi : ∀ j, i ≤ j → j < l.length → Op.bytesLess (rd_T27 l (j : Int)).f0.toList r.f0.toList = false) :
    l.any (fun x => Texts.has (pR r) x.f0.toList) = (decide (i < l.length) && Texts.has (pR r) (rd_T27 l (i : Int)).f0.toList) := by
  have hrise := nf_rises h
  by_cases q : i < l.length
  · rw [decide_eq_true q, Bool.true_and]
    cases e : Texts.has (pR r) (rd_T27 l (i : Int)).f0.toList with
    | true => rw [rdR l i q] at e; exact List.any_eq_true.2 ⟨l[i], List.getElem_mem _, e⟩
    | false =>
      cases e2 : l.any (fun x => Texts.has (pR r) x.f0.toList) with
      | false => rfl
      | true =>
        obtain ⟨x, hx, hh⟩ := List.any_eq_true.1 e2
        obtain ⟨j, hj, rfl⟩ := List.mem_iff_getElem.1 hx
        have h1 := Texts.has_iff.1 hh
        have hji : ¬ j < i := fun hji => by
          have h2 := hlo j hji
          rw [rdR l j hj] at h2
          have h3 : Texts.lt l[j].f0.toList r.f0.toList = false := h1.1
          rw [show Texts.lt l[j].f0.toList r.f0.toList = true from h2] at h3; cases h3
        rcases Nat.lt_or_ge i j with h4 | h4
        · have h5 := hrise i j h4 hj
          have h6 : Texts.has (pR r) (rd_T27 l (i : Int)).f0.toList = true := by
            refine Texts.has_iff.2 ⟨hhi i (Nat.le_refl _) q, ?_⟩
            rcases h1.2 with h7 | h7
            · exact .inl h7
            · right
              rw [rdR l j hj] at h5
              exact Texts.trans h5 h7
          rw [h6] at e; cases e
        · obtain rfl : j = i := by omega
          rw [rdR l j hj] at e
          rw [hh] at e; cases e
  · rw [decide_eq_false q, Bool.false_and]
    cases e2 : l.any (fun x => Texts.has (pR r) x.f0.toList) with
    | false => rfl
    | true =>
      obtain ⟨x, hx, hh⟩ := List.any_eq_true.1 e2
      obtain ⟨j, hj, rfl⟩ := List.mem_iff_getElem.1 hx
      have h1 := (Texts.has_iff.1 hh).1
      have h2 := hlo j (by omega)
      rw [rdR l j hj] at h2
      rw [show Texts.lt l[j].f0.toList (pR r).1 = true from h2] at h1; cases h1
set_option maxRecDepth 100000 in
set_option maxHeartbeats 8000000 in
theorem meets_any (w : World) (A : Option Addr) (c : Nat) (l : List S27) (r : S27) (hr : Kd.C k27 w A l.length l) (hn : l.length ≤ 4294967296) (h : Texts.NF (l.map pR)) :
    Calls Tryd.prog 39 #[.slice A l.length c, .agg #[.string r.f0, .string r.f1]] w fun e w' => e = .returned (.bool (meetsB l r)) ∧ Below w.heap.size w w' := by
  have h1 := fun W (hb : Below w.heap.size w W) => holds_nf W A c l r.f0 (Kd.C_below hr hb) hn h
  have h2 := fun W (hb : Below w.heap.size w W) => from_any W A c l r.f0 (Kd.C_below hr hb) hn (nf_rises h)
  have hhas := fun x W => has_any r x W
  have hrest := fun i hi hlo hhi => meets_rest h (r := r) (i := i) hi hlo hhi
  obtain ⟨p, hp⟩ : ∃ p, RowKit.Hid (p = Texts.hasL (l.map pR) r.f0.toList) := ⟨_, Lib.hid rfl⟩
  have hmb : RowKit.Hid (meetsB l r = (p || l.any (fun x => Texts.has (pR r) x.f0.toList))) := Lib.hid (by rw [hp.out]; rfl)
  rw [hmb.out]
  rw [← hp.out] at h1
  obtain ⟨an, han⟩ : ∃ an, RowKit.Hid (an = l.any (fun x => Texts.has (pR r) x.f0.toList)) := ⟨_, Lib.hid rfl⟩
  rw [← han.out] at hrest ⊢
  have R := Lib.hid hr
  have H1 := Lib.hid h1
  have H2 := Lib.hid h2
  have HR := Lib.hid hrest
  clear hr h h1 h2 hrest
  obtain ⟨n, hN⟩ : ∃ n, RowKit.Hid (n = l.length) := ⟨_, Lib.hid rfl⟩
  rw [← hN.out] at H1 H2 HR hn R ⊢
  have b0 : RowKit.Hid (Below w.heap.size w (w.alloc (.cells #[.string r.f0, .string r.f1] 27))) := Lib.hid ((Below.refl _ _).alloc (Nat.le_refl _) _)
  have g0 : (w.alloc (.cells #[.string r.f0, .string r.f1] 27)).heap[w.heap.size]? = some (.cells #[.string r.f0, .string r.f1] 27 (0, 0)) := heap_alloc_new w _
  have G0 := Lib.hid g0
  clear g0
  obtain ⟨f0, f1⟩ := r
  simp only at *
  cases p with
  | true =>
    go_enter Tryd.func39, Tryd.ntmps39
    go_wp2_with (first
      | (go_at_call 44; (with_reducible refine (H1.out _ b0.out).mono ?_); rintro e w2 ⟨rfl, hb2⟩; have Hb2 := Lib.hid hb2; clear hb2))
    go_ret
    exact ⟨rfl, b0.out.trans (Hb2.out.mono b0.out.size)⟩
  | false =>
    go_enter Tryd.func39, Tryd.ntmps39
    go_upto_region 3 with (first
      | (go_at_call 44; (with_reducible refine (H1.out _ b0.out).mono ?_); rintro e w2 ⟨rfl, hb2⟩; have Hb2 := Lib.hid hb2; clear hb2))
    have b2 := Lib.hid (b0.out.trans (Hb2.out.mono b0.out.size))
    have lt0 : w.heap.size < (w.alloc (.cells #[.string f0, .string f1] 27)).heap.size := by rw [World.size_alloc]; omega
    have g2 : w2.heap[w.heap.size]? = some (.cells #[.string f0, .string f1] 27 (0, 0)) := (Hb2.out.block _ lt0).trans G0.out
    have z0 : w2.cell? ⟨w.heap.size, 0, none⟩ = some (.string f0) := cell_of_row w2 _ 0 _ _ _ g2
    go_upto_region 4 with (first
      | (go_at_call 56; (with_reducible refine (H2.out _ b2.out).mono ?_); rintro e w3 ⟨i, b, hi, hlo, hhi, rfl, hb3⟩; have Hb3 := Lib.hid (And.intro hi (And.intro hlo (And.intro hhi hb3))); clear hlo hhi hb3))
    have b3 := Lib.hid (b2.out.trans (Hb3.out.2.2.2.mono b2.out.size))
    have lt2 : w.heap.size < w2.heap.size := by rcases Nat.lt_or_ge w.heap.size w2.heap.size with h | h; exact h; rw [Array.getElem?_eq_none h] at g2; cases g2
    have g3 : w3.heap[w.heap.size]? = some (.cells #[.string f0, .string f1] 27 (0, 0)) := (Hb3.out.2.2.2.block _ lt2).trans g2
    have y0 : w3.cell? ⟨w.heap.size, 0, none⟩ = some (.string f0) := cell_of_row w3 _ 0 _ _ _ g3
    have y1 : w3.cell? ⟨w.heap.size, 1, none⟩ = some (.string f1) := cell_of_row w3 _ 1 _ _ _ g3
    have hrs := HR.out i (by have := Hb3.out.1; have := hN.out; omega) Hb3.out.2.1 (fun j h1 h2 => Hb3.out.2.2.1 j h1 (by have := hN.out; omega))
    have hC3 : RowKit.Hid (Kd.C k27 w3 A n l) := Lib.hid (Kd.C_below R.out b3.out)
    clear g2 z0 g3 lt0 lt2
    by_cases hin : i < n
    · have l16 : (0 : Int) ≤ (i : Int) := by omega
      have u16 : (i : Int) < (n : Int) := by omega
      obtain ⟨ad, eA, x0, x1⟩ := at_T27 hC3.out (i : Int) l16 u16
      simp only [Int.toNat_natCast] at x0 x1
      rw [decide_eq_true hin, Bool.true_and] at hrs
      obtain ⟨x, hx⟩ : ∃ x, RowKit.Hid (x = rd_T27 l (i : Int)) := ⟨_, Lib.hid rfl⟩
      rw [← hx.out] at x0 x1 hrs
      have hh : ∀ W, Calls Tryd.prog 58 #[.agg #[.string f0, .string f1], .string x.f0] W fun e w' => e = .returned (.bool an) ∧ Below W.heap.size W w' := by
        intro W
        rw [hrs]
        exact hhas x.f0 W
      have hlt : decide ((i : Int) < (n : Int)) = true := decide_eq_true u16
      have xl := World.block_lt_of_cell? w3 _ x0
      have AN := Lib.hid hrs
      replace l16 := eq_true l16
      replace u16 := eq_true u16
      clear hhas hrs hi
      cases eA
      have yl : w.heap.size < w3.heap.size := World.block_lt_of_cell? w3 _ y0
      refine start_ (n := 14) (S := fun w' => w'.cell? ⟨w.heap.size, 0, none⟩ = some (.string f0) ∧ w'.cell? ⟨w.heap.size, 1, none⟩ = some (.string f1) ∧ w'.cell? (ad.add (i * 2)) = some (.string x.f0)) (ds := []) #[false, false, false, false, false, false, false, false, false, false, false, false, false, false] (by kernel_rfl) rfl rfl ⟨y0, y1, x0⟩ (fun hHeld => ?_)
      refine pure_ (i := 0) (N := (some 18)) (v := ?_) (a' := ?_) #[true, false, false, false, false, false, false, false, false, false, false, false, false, false] rfl rfl (by kernel_rfl) (fun _ _ _ h => h) (Or.inl ⟨by rfl, ?_⟩) ?_ ?_
      rotate_left
      · intro w'
        go_simp
        with_reducible rfl
      rotate_left
      · simp only [Act.put, List.setIfInBounds_toArray, List.set_cons_zero, List.set_cons_succ, i64_w, i32_w]
        rfl
      refine pure_ (i := 1) (N := (some 19)) (v := ?_) (a' := ?_) #[true, true, false, false, false, false, false, false, false, false, false, false, false, false] rfl rfl (by kernel_rfl) (fun _ _ _ h => h) (Or.inl ⟨by rfl, ?_⟩) ?_ ?_
      rotate_left
      · intro w'
        go_simp
        with_reducible rfl
      rotate_left
      · simp only [Act.put, List.setIfInBounds_toArray, List.set_cons_zero, List.set_cons_succ, i64_w, i32_w]
        rfl
      refine pure_ (i := 2) (N := (some 20)) (v := ?_) (a' := ?_) #[true, true, true, false, false, false, false, false, false, false, false, false, false, false] rfl rfl (by kernel_rfl) (fun _ _ _ h => h) (Or.inl ⟨by rfl, ?_⟩) ?_ ?_
      rotate_left
      · intro w'
        go_simp
        with_reducible rfl
      rotate_left
      · simp only [Act.put, List.setIfInBounds_toArray, List.set_cons_zero, List.set_cons_succ, i64_w, i32_w]
        rfl
      refine pure_ (i := 3) (N := (some 21)) (v := ?_) (a' := ?_) #[true, true, true, true, false, false, false, false, false, false, false, false, false, false] rfl rfl (by kernel_rfl) (fun _ _ _ h => h) (Or.inl ⟨by rfl, ?_⟩) ?_ ?_
      rotate_left
      · intro w'
        go_simp
        with_reducible rfl
      rotate_left
      · simp only [Act.put, List.setIfInBounds_toArray, List.set_cons_zero, List.set_cons_succ, i64_w, i32_w]
        rfl
      refine pure_ (i := 4) (N := (some 22)) (v := ?_) (a' := ?_) #[true, true, true, true, true, false, false, false, false, false, false, false, false, false] rfl rfl (by kernel_rfl) (fun _ _ _ h => h) (Or.inl ⟨by rfl, ?_⟩) ?_ ?_
      rotate_left
      · intro w'
        go_simp
        with_reducible rfl
      rotate_left
      · simp only [Act.put, List.setIfInBounds_toArray, List.set_cons_zero, List.set_cons_succ, i64_w, i32_w]
        rfl
      refine pure_ (i := 6) (N := (some 24)) (v := ?_) (a' := ?_) #[true, true, true, true, true, false, true, false, false, false, false, false, false, false] rfl rfl (by kernel_rfl) (fun _ _ _ h => h) (Or.inl ⟨by rfl, ?_⟩) ?_ ?_
      rotate_left
      · intro w'
        go_simp
        with_reducible rfl
      rotate_left
      · simp only [Act.put, List.setIfInBounds_toArray, List.set_cons_zero, List.set_cons_succ, i64_w, i32_w]
        rfl
      refine pure_ (i := 7) (N := (some 25)) (v := ?_) (a' := ?_) #[true, true, true, true, true, false, true, true, false, false, false, false, false, false] rfl rfl (by kernel_rfl) (fun _ _ _ h => h) (Or.inl ⟨by rfl, ?_⟩) ?_ ?_
      rotate_left
      · intro w'
        go_simp
        with_reducible rfl
      rotate_left
      · simp only [Act.put, List.setIfInBounds_toArray, List.set_cons_zero, List.set_cons_succ, i64_w, i32_w]
        rfl
      refine pure_ (i := 8) (N := (some 26)) (v := ?_) (a' := ?_) #[true, true, true, true, true, false, true, true, true, false, false, false, false, false] rfl rfl (by kernel_rfl) (fun _ _ _ h => h) (Or.inl ⟨by rfl, ?_⟩) ?_ ?_
      rotate_left
      · intro w'
        go_simp
        with_reducible rfl
      rotate_left
      · simp only [Act.put, List.setIfInBounds_toArray, List.set_cons_zero, List.set_cons_succ, i64_w, i32_w]
        rfl
      refine pure_ (i := 9) (N := (some 27)) (v := ?_) (a' := ?_) #[true, true, true, true, true, false, true, true, true, true, false, false, false, false] rfl rfl (by kernel_rfl) (fun _ _ _ h => h) (Or.inl ⟨by rfl, ?_⟩) ?_ ?_
      rotate_left
      · intro w'
        go_simp
        with_reducible rfl
      rotate_left
      · simp only [Act.put, List.setIfInBounds_toArray, List.set_cons_zero, List.set_cons_succ, i64_w, i32_w]
        rfl
      refine take_ (i := 5) (N := (some 23)) (v := ?_) (a' := ?_) #[true, true, true, true, true, true, true, true, true, true, false, false, false, false] rfl rfl (by kernel_rfl) (fun _ _ _ h => h) (Or.inl ⟨by rfl, ?_⟩) hHeld ?_ ?_
      rotate_left
      · rintro w' ⟨s0, s1, s2⟩
        go_simp
        with_reducible rfl
      rotate_left
      · simp only [Act.put, List.setIfInBounds_toArray, List.set_cons_zero, List.set_cons_succ, i64_w, i32_w]
        rfl
      refine take_ (i := 10) (N := (some 28)) (v := ?_) (a' := ?_) #[true, true, true, true, true, true, true, true, true, true, true, false, false, false] rfl rfl (by kernel_rfl) (fun _ _ _ h => h) (Or.inl ⟨by rfl, ?_⟩) hHeld ?_ ?_
      rotate_left
      · rintro w' ⟨s0, s1, s2⟩
        go_simp
        with_reducible rfl
      rotate_left
      · simp only [Act.put, List.setIfInBounds_toArray, List.set_cons_zero, List.set_cons_succ, i64_w, i32_w]
        rfl
      refine one_ (i := 11) (N := (some 29)) #[true, true, true, true, true, true, true, true, true, true, true, true, false, false] rfl rfl (by kernel_rfl) (by decide) (fun K hK => ?_)
      refine goes_ Tryd.func58 (by kernel_rfl) rfl #[.agg #[.string f0, .string f1], .string x.f0] (by rfl) rfl rfl (by (try simp only [List.map_toArray, List.map_cons, List.map_nil]); rfl) ?_
      refine (hh _).mono ?_
      rintro e w4 ⟨rfl, hb4⟩
      refine ⟨_, rfl, ?_⟩
      have RB := Lib.hid hb4
      have yl2 := yl
      replace y0 := (hb4.cell (p := ⟨w.heap.size, 0, none⟩) yl).trans y0
      replace y1 := (hb4.cell (p := ⟨w.heap.size, 1, none⟩) yl).trans y1
      replace x0 := (hb4.cell (p := ad.add (i * 2)) xl).trans x0
      clear hb4
      refine hK.out _ _ ⟨y0, y1, x0⟩ (fun hHeld => ?_)
      clear hK K
      refine norm_ (a' := ?_) ?_ ?_
      rotate_left
      · show Act.put _ (some 29) _ = _
        simp only [Act.put, List.setIfInBounds_toArray, List.set_cons_zero, List.set_cons_succ, i64_w, i32_w]
        rfl
      refine pure_ (i := 12) (N := (some 30)) (v := ?_) (a' := ?_) #[true, true, true, true, true, true, true, true, true, true, true, true, true, false] rfl rfl (by kernel_rfl) (fun _ _ _ h => h) (Or.inl ⟨by rfl, ?_⟩) ?_ ?_
      rotate_left
      · intro w'
        go_simp
        with_reducible rfl
      rotate_left
      · simp only [Act.put, List.setIfInBounds_toArray, List.set_cons_zero, List.set_cons_succ, i64_w, i32_w]
        rfl
      refine pure_ (i := 13) (N := (some 4)) (v := ?_) (a' := ?_) #[true, true, true, true, true, true, true, true, true, true, true, true, true, true] rfl rfl (by kernel_rfl) (fun _ _ _ h => h) (Or.inl ⟨by rfl, ?_⟩) ?_ ?_
      rotate_left
      · intro w'
        go_simp
        with_reducible rfl
      rotate_left
      · simp only [Act.put, List.setIfInBounds_toArray, List.set_cons_zero, List.set_cons_succ, i64_w, i32_w]
        rfl
      refine done_ (by kernel_rfl) ?_
      go_wp2
      go_ret
      rw [AN.out]
      exact ⟨rfl, b3.out.trans ((Below.drew (Below.refl _ _)).trans (RB.out) |>.mono b3.out.size)⟩
    · have hni : ¬ ((i : Int) < (n : Int)) := by omega
      rw [decide_eq_false hin, Bool.false_and] at hrs
      have AN := Lib.hid hrs
      clear hrs
      go_quiet (fail)
      go_wp2
      go_ret
      rw [AN.out]
      exact ⟨rfl, pw_below_drewN b3.out _⟩
end Go.Proofs.YtmjmjjhfficilaaDoor.PSpanTouches

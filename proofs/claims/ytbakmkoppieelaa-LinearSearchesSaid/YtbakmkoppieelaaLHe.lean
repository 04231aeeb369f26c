/- What is proved: the reference's Holds, and that both Holds answer the same; the conditions stand in the theorems. -/
import Derived.Test.YtbakmkoppieelaaLHc
import Derived.Test.YtbakmkoppieelaaLHd
namespace Go.Proofs.Ytbakmkoppieelaa.PLinearChecks
open Go.RowKit Go.Proofs.YtbakmkoppieelaaW.PrintWords Go.Proofs.YtbakmkoppieelaaW.PrintLast Go.Proofs.YtbakmkoppieelaaW.PrintMore
set_option linter.unusedVariables false
set_option linter.unusedSimpArgs false
def ssL (s : SS) : List Value := [.string s.k, .bool s.t, .string s.v, .int .i64 s.lo, .int .i64 s.fr]
def zSS : SS := ⟨⟨#[]⟩, false, ⟨#[]⟩, 0, 0⟩
def kl (l : List SS) (i : Nat) : SS := l.getD i zSS
def k177 : Kd SS := Kd.iso (Kd.pair Kd.string (Kd.pair Kd.bool (Kd.pair Kd.string (Kd.pair (Kd.int .i64) (Kd.int .i64))))) (fun s : SS => (s.k, s.t, s.v, s.lo, s.fr))
theorem k177_open {w : World} {x : SS} {cs : List Value} (h : k177.K w x cs) : cs = ssL x := by
  obtain ⟨_, _, rfl, rfl, ⟨_, _, rfl, rfl, ⟨_, _, rfl, rfl, ⟨_, _, rfl, rfl, rfl⟩⟩⟩⟩ := h
  exact rfl
theorem k177_mkM (w : World) (base : Nat) (ok : Nat → Prop) (x : SS) : k177.M w base ok x (ssL x) := ⟨[.string x.k], [.bool x.t, .string x.v, .int .i64 x.lo, .int .i64 x.fr], rfl, rfl, ⟨[.bool x.t], [.string x.v, .int .i64 x.lo, .int .i64 x.fr], rfl, rfl, ⟨[.string x.v], [.int .i64 x.lo, .int .i64 x.fr], rfl, rfl, ⟨[.int .i64 x.lo], [.int .i64 x.fr], rfl, rfl, rfl⟩⟩⟩⟩
theorem info177 : (Try.prog.info? 177).map (fun i => (i.zero, i.size, i.bytes)) = some (some (.agg #[.string ⟨#[]⟩, .bool false, .string ⟨#[]⟩, .int .i64 0, .int .i64 0]), 5, 56) := by kernel_rfl
theorem rowS {w : World} {A : Option Addr} {n : Nat} {xs : List SS} (h : Kd.C k177 w A n xs) (i : Int) (h0 : 0 ≤ i) (h1 : i < n) : ∃ ad, A = some ad ∧ ∀ j v, (ssL (kl xs i.toNat))[j]? = some v → w.cell? ((ad.add (i.toNat * 5)).add j) = some v := by
  obtain ⟨ad, c, e, _, hK, hc0⟩ := Kd.C_get h zSS i h0 h1
  obtain rfl := k177_open hK
  exact ⟨ad, e, fun j v hv => by rw [add_add]; exact hc0 j v hv⟩
/-- A row of states of the call's own, one of them set apart. -/
theorem R_splitS {W : World} {base : Nat} {v : Value} {l : List SS} (h : Kd.R k177 177 W base (fun _ => True) v l) (k : Nat) (hk : k < l.length) :
    ∃ g cap p q, v = .slice (some ⟨g, 0, none⟩) l.length cap ∧ base ≤ g ∧ l.length ≤ cap ∧ p.length = k * 5 ∧ W.heap[g]? = some (.cells (p ++ ssL (kl l k) ++ q).toArray 177 (0, 0)) ∧
      ∀ (W' : World) (x : SS), W'.heap[g]? = some (.cells (p ++ ssL x ++ q).toArray 177 (0, 0)) → Kd.R k177 177 W' base (fun _ => True) v (l.set k x) := by
  obtain ⟨_, inner, ⟨hlen, hown⟩, hrl, hrep⟩ := h
  rcases hown with ⟨_, h0⟩ | ⟨g, cap, cur, rfl, hbg, hg, hc1, hc2, hcs, htk⟩
  · omega
  · have hsz : k177.sz = 5 := rfl
    rw [hsz] at hlen hrl htk hcs hrep
    have hin : ∀ (i : Nat) (x : SS), l[i]? = some x → (inner.drop (i * 5)).take 5 = ssL x := fun i x hx => by
      have h2 := k177.K_of_M (hrep i x hx)
      exact k177_open h2
    have hcl : l[k]? = some (kl l k) := by
      unfold kl
      rw [List.getD_eq_getElem?_getD, List.getElem?_eq_getElem hk]
      rfl
    have hk16 : k * 5 + 5 ≤ l.length * 5 := by omega
    have hL : cur.toList.length = cap * 5 := by simpa using hcs
    have hmid : (cur.toList.drop (k * 5)).take 5 = ssL (kl l k) := by
      rw [← hin k _ hcl, ← htk, List.drop_take, List.take_take, Nat.min_eq_left (by omega)]
    have hsp : cur.toList = cur.toList.take (k * 5) ++ ssL (kl l k) ++ cur.toList.drop (k * 5 + 5) := by
      rw [← hmid, List.append_assoc, ← List.drop_drop, List.take_append_drop, List.take_append_drop]
    refine ⟨g, cap, cur.toList.take (k * 5), cur.toList.drop (k * 5 + 5), rfl, hbg, hc1, by rw [List.length_take]; omega, ?_, fun W' x hW => ?_⟩
    · rw [← hsp, Array.toArray_toList]
      exact hg
    · have hx16 : (ssL x).length = 5 := rfl
      have hp16 : (cur.toList.take (k * 5)).length = k * 5 := by rw [List.length_take]; omega
      have hnew : ∀ i, i < l.length → (((cur.toList.take (k * 5) ++ ssL x ++ cur.toList.drop (k * 5 + 5)).take (l.length * 5)).drop (i * 5)).take 5 = if i = k then ssL x else (inner.drop (i * 5)).take 5 := fun i hi => by
        rw [List.drop_take, List.take_take, Nat.min_eq_left (by omega)]
        by_cases e : i = k
        · subst e
          rw [if_pos rfl, List.append_assoc, List.drop_append_of_le_length (by omega), List.drop_of_length_le (by omega), List.nil_append, List.take_append_of_le_length (by omega), List.take_of_length_le (by omega)]
        · rw [if_neg e, ← htk, List.drop_take, List.take_take, Nat.min_eq_left (by omega)]
          refine List.ext_getElem? (fun m => ?_)
          rw [List.getElem?_take, List.getElem?_take]
          by_cases hm : m < 5
          · rw [if_pos hm, if_pos hm, List.getElem?_drop, List.getElem?_drop]
            rcases Nat.lt_or_ge i k with hik | hik
            · rw [List.append_assoc, List.getElem?_append_left (by omega), List.getElem?_take, if_pos (by omega)]
            · rw [List.getElem?_append_right (by rw [List.length_append]; omega), List.getElem?_drop, List.length_append, hp16, hx16]
              congr 1
              omega
          · rw [if_neg hm, if_neg hm]
      refine ⟨fun _ _ => trivial, (cur.toList.take (k * 5) ++ ssL x ++ cur.toList.drop (k * 5 + 5)).take (l.length * 5), ⟨?_, .inr ⟨g, cap, _, by rw [List.length_set], hbg, hW, by rw [List.length_set]; exact hc1, hc2, ?_, ?_⟩⟩, ?_, fun i y hy => ?_⟩
      · rw [hsz, List.length_set, List.length_take, List.length_append, List.length_append, hp16, hx16, List.length_drop]
        omega
      · rw [hsz]
        simp
        omega
      · rw [hsz, List.length_set]
      · rw [hsz, List.length_set, List.length_take, List.length_append, List.length_append, hp16, hx16, List.length_drop]
        omega
      · have hi : i < l.length := by
          have h3 := (List.getElem?_eq_some_iff.mp hy).1
          simpa using h3
        rw [hsz, hnew i hi]
        by_cases e : i = k
        · subst e
          rw [if_pos rfl]
          rw [List.getElem?_set_self hi] at hy
          obtain rfl := Option.some.inj hy
          exact k177_mkM _ _ _ _
        · rw [if_neg e]
          rw [List.getElem?_set_ne (by omega)] at hy
          rw [hin i y hy]
          exact k177_mkM _ _ _ _
/-- The last state of a key; -1: none. -/
def fndK (key : ByteArray) (l : List SS) : Nat → Int
  | 0 => -1
  | n + 1 => if ((kl l n).k.toList == key.toList) = true then (n : Int) else fndK key l n
theorem fnd_at (key : ByteArray) (l : List SS) : ∀ n, fndK key l n = -1 ∨ (∃ k, k < n ∧ fndK key l n = (k : Int) ∧ ((kl l k).k.toList == key.toList) = true) := by
  intro n
  induction n with
  | zero => exact .inl rfl
  | succ n ih =>
    by_cases h : ((kl l n).k.toList == key.toList) = true
    · exact .inr ⟨n, by omega, by rw [fndK, if_pos h], h⟩
    · have e : fndK key l (n + 1) = fndK key l n := by rw [fndK, if_neg h]
      rw [e]
      rcases ih with h1 | ⟨k, h1, h2⟩
      · exact .inl h1
      · exact .inr ⟨k, by omega, h2⟩
/-- The states with one for a call's key; its place. -/
def addS (l : List SS) (c : S39) : List SS := if fndK c.f3 l l.length < 0 then l ++ [⟨c.f3, false, ⟨#[]⟩, 0, 0⟩] else l
def atS (l : List SS) (c : S39) : Nat := if fndK c.f3 l l.length < 0 then l.length else (fndK c.f3 l l.length).toNat
def stpS (l : List SS) (c : S39) : Option (List SS) := if (aftF (kl (addS l c) (atS l c)) c).2 = true then some ((addS l c).set (atS l c) (aftF (kl (addS l c) (atS l c)) c).1) else none
/-- Can calls happen one behind the other? -/
def runB : List S39 → List SS → Bool
  | [], _ => true
  | c :: t, l => match stpS l c with
    | none => false
    | some l2 => runB t l2
theorem at_lt (l : List SS) (c : S39) : atS l c < (addS l c).length := by
  unfold atS addS
  by_cases h : fndK c.f3 l l.length < 0
  · rw [if_pos h, if_pos h]; simp
  · rw [if_neg h, if_neg h]
    rcases fnd_at c.f3 l l.length with h1 | ⟨k, h1, h2, _⟩
    · rw [h1] at h; exact absurd (by decide) h
    · rw [h2]; omega
theorem add_len (l : List SS) (c : S39) : (addS l c).length ≤ l.length + 1 := by
  unfold addS
  split
  · simp
  · omega
/-- What stands under a key, in both ways. -/
structure RelS (n : Nat) (c : SC) (s : SS) : Prop where
  th : c.f0 = s.t
  va : c.f1 = s.v
  lo : c.f3 = s.lo
  fr : c.f4 = s.fr
  b1 : 0 ≤ s.lo ∧ s.lo ≤ bigM
  b2 : 0 ≤ s.fr ∧ s.fr ≤ n
  kn : s.t = true → (s.fr = 0 ∧ c.f2 = s.lo ∧ 0 < s.lo) ∨ (0 < s.fr ∧ c.f2 = 0)
theorem wrap_no {x : Int} (h0 : -4611686018427387904 ≤ x) (h1 : x ≤ 4611686018427387904) : wrap64 x = x := by unfold wrap64; omega
theorem set_ver {n : Nat} (hn : n ≤ 1000000000000) {c : SC} {s : SS} {v : Int} (hv : 0 ≤ v ∧ v ≤ bigM) (h : RelS n c s) : (setF c v).2 = (verF s v).2 ∧ ((setF c v).2 = true → RelS n (setF c v).1 (verF s v).1) := by
  obtain ⟨th, va, lo, fr, b1, b2, kn⟩ := h
  have hb : bigM = 1152921504606846976 := rfl
  have w1 : wrap64 (c.f3 + c.f4) = s.lo + s.fr := by rw [lo, fr]; exact wrap_no (by omega) (by omega)
  have w2 : wrap64 (v - s.lo) = v - s.lo := wrap_no (by omega) (by omega)
  unfold setF verF seeF
  rw [w1, w2, th]
  cases ht : s.t with
  | false =>
    by_cases h0 : v = 0
    · simp [h0]
      exact ⟨by rw [th, ht], va, lo, fr, b1, b2, fun h => by rw [ht] at h; cases h⟩
    · simp [h0]
  | true =>
    rcases kn ht with ⟨k1, k2, k3⟩ | ⟨k1, k2⟩
    · by_cases hvl : v = s.lo
      · have h0 : ¬ v = 0 := by omega
        have e1 : c.f2 > 0 := by omega
        have e2 : (c.f2 == v) = true := by rw [k2, hvl]; exact beq_self_eq_true _
        rw [if_neg (show ¬ (true = false) by decide), if_pos e1, if_neg h0, if_neg (show ¬ (true = false) by decide), if_neg (show ¬ (s.fr = 0 ∧ ¬ v = s.lo) by omega), if_neg (show ¬ v - s.lo < s.fr by omega)]
        refine ⟨e2, fun _ => ⟨by show c.f0 = true; rw [th, ht], va, by show c.f3 = v; omega, by show c.f4 = 0; omega, by show 0 ≤ v ∧ v ≤ bigM; omega, by show (0 : Int) ≤ 0 ∧ (0 : Int) ≤ n; omega, fun _ => .inl ⟨rfl, by show c.f2 = v; omega, by show 0 < v; omega⟩⟩⟩
      · have e1 : c.f2 > 0 := by omega
        have e2 : (c.f2 == v) = false := by rw [k2]; simpa using fun h => hvl h.symm
        rw [if_neg (show ¬ (true = false) by decide), if_pos e1]
        by_cases h0 : v = 0
        · rw [if_pos h0]
          exact ⟨by rw [e2]; rfl, fun h => by rw [e2] at h; cases h⟩
        · rw [if_neg h0, if_neg (show ¬ (true = false) by decide), if_pos ⟨k1, hvl⟩]
          exact ⟨e2, fun h => by rw [e2] at h; cases h⟩
    · have e1 : ¬ c.f2 > 0 := by omega
      rw [if_neg (show ¬ (true = false) by decide), if_neg e1]
      by_cases h0 : v = 0
      · rw [if_pos h0, if_pos (show v < s.lo + s.fr by omega)]
        exact ⟨rfl, fun h => by cases h⟩
      · rw [if_neg h0, if_neg (show ¬ (true = false) by decide), if_neg (show ¬ (s.fr = 0 ∧ ¬ v = s.lo) by omega)]
        by_cases hlt : v < s.lo + s.fr
        · rw [if_pos hlt, if_pos (show v - s.lo < s.fr by omega)]
          exact ⟨rfl, fun h => by cases h⟩
        · rw [if_neg hlt, if_neg (show ¬ v - s.lo < s.fr by omega)]
          refine ⟨rfl, fun _ => ⟨rfl, va, rfl, rfl, hv, by show (0 : Int) ≤ 0 ∧ (0 : Int) ≤ n; omega, fun _ => .inl ⟨rfl, rfl, by show 0 < v; omega⟩⟩⟩
theorem see_ver {s : SS} {v : Int} (hv : 1 ≤ v) : seeF s v = verF s v := by
  unfold verF
  rw [if_neg (by omega)]
theorem eff_tak {n : Nat} (hn : n ≤ 1000000000000) {c : SC} {s : SS} {t : Bool} {va : ByteArray} {x : Int} (hx : 0 ≤ x ∧ x ≤ bigM) (h : RelS n c s) : (effF c t va x).2 = (takF s x).2 ∧ ((effF c t va x).2 = true → RelS (n + 1) (effF c t va x).1 ⟨(takF s x).1.k, t, va, (takF s x).1.lo, (takF s x).1.fr⟩) := by
  obtain ⟨th, va0, lo, fr, b1, b2, kn⟩ := h
  have hb : bigM = 1152921504606846976 := rfl
  have w1 : wrap64 (c.f3 + c.f4) = s.lo + s.fr := by rw [lo, fr]; exact wrap_no (by omega) (by omega)
  have w3 : wrap64 (s.lo + s.fr + 1) = s.lo + s.fr + 1 := wrap_no (by omega) (by omega)
  have w4 : wrap64 (c.f4 + 1) = s.fr + 1 := by rw [fr]; exact wrap_no (by omega) (by omega)
  have w5 : wrap64 (s.fr + 1) = s.fr + 1 := wrap_no (by omega) (by omega)
  have w2 : wrap64 (x - s.lo) = x - s.lo := wrap_no (by omega) (by omega)
  unfold effF takF
  rw [w1, w2, w3, w4, w5]
  by_cases h0 : x = 0
  · rw [if_pos h0, if_pos h0]
    exact ⟨rfl, fun _ => ⟨rfl, rfl, lo, rfl, b1, by show 0 ≤ s.fr + 1 ∧ s.fr + 1 ≤ ((n + 1 : Nat) : Int); omega, fun _ => .inr ⟨by show 0 < s.fr + 1; omega, rfl⟩⟩⟩
  · rw [if_neg h0, if_neg h0]
    by_cases hlt : x < s.lo + s.fr + 1
    · rw [if_pos hlt, if_pos (by omega)]
      exact ⟨rfl, fun h => by cases h⟩
    · rw [if_neg hlt, if_neg (by omega)]
      exact ⟨rfl, fun _ => ⟨rfl, rfl, rfl, rfl, hx, by show (0 : Int) ≤ 0 ∧ (0 : Int) ≤ ((n + 1 : Nat) : Int); omega, fun _ => .inl ⟨rfl, rfl, by show 0 < x; omega⟩⟩⟩
theorem RelS.mono {n m : Nat} {c : SC} {s : SS} (h : RelS n c s) (hm : n ≤ m) : RelS m c s := ⟨h.th, h.va, h.lo, h.fr, h.b1, ⟨h.b2.1, by have := h.b2.2; omega⟩, h.kn⟩
/-- What an update's effect is, in the reference's words. -/
def dooF (s : SS) (x : S39) (v : Int) : SS × Bool := if x.f4.f0 = 2 then goeF s v else if x.f4.f0 = 3 then (if (verF s x.f4.f3).2 = true then putF (verF s x.f4.f3).1 x.f4.f2 v else (s, false)) else putF s x.f4.f2 v
theorem do_aft {n : Nat} (hn : n ≤ 1000000000000) {c : SC} {s : SS} {x : S39} {v : Int} (hv : 0 ≤ v ∧ v ≤ bigM) (h3 : 0 ≤ x.f4.f3 ∧ x.f4.f3 ≤ bigM) (h : RelS n c s) : (doF c x v).2 = (dooF s x v).2 ∧ ((doF c x v).2 = true → RelS (n + 1) (doF c x v).1 (dooF s x v).1) := by
  unfold doF dooF
  by_cases k2 : x.f4.f0 = 2
  · rw [if_pos k2, if_pos k2]
    unfold goeF
    rw [h.th]
    cases ht : s.t with
    | false =>
      rw [if_pos rfl, if_pos rfl]
      exact ⟨rfl, fun h => by cases h⟩
    | true =>
      rw [if_neg (show ¬ (true = false) by decide), if_neg (show ¬ (true = false) by decide)]
      exact eff_tak (t := false) (va := ⟨#[]⟩) hn hv h
  · rw [if_neg k2, if_neg k2]
    by_cases k3 : x.f4.f0 = 3
    · rw [if_pos k3, if_pos k3]
      obtain ⟨a, b⟩ := set_ver hn h3 h
      rw [← a]
      by_cases hs : (setF c x.f4.f3).2 = true
      · rw [if_pos hs, if_pos hs]
        exact eff_tak (t := true) (va := x.f4.f2) hn hv (b hs)
      · rw [if_neg hs, if_neg hs]
        exact ⟨rfl, fun h => by cases h⟩
    · rw [if_neg k3, if_neg k3]
      exact eff_tak (t := true) (va := x.f4.f2) hn hv h
theorem hap_aft {n : Nat} (hn : n ≤ 1000000000000) {c : SC} {s : SS} {x : S39} (hm : mayB x = true) (h : RelS n c s) : (hapF c x).2 = (aftF s x).2 ∧ ((hapF c x).2 = true → RelS (n + 1) (hapF c x).1 (aftF s x).1) := by
  unfold hapF aftF
  cases hr : x.f2 with
  | true =>
    rw [if_pos rfl, if_pos rfl]
    cases hf : x.f9 with
    | false =>
      rw [if_pos rfl, if_pos rfl]
      exact ⟨by show (!c.f0) = (!s.t); rw [h.th], fun _ => h.mono (by omega)⟩
    | true =>
      rw [if_neg (show ¬ (true = false) by decide), if_neg (show ¬ (true = false) by decide), h.th]
      cases ht : s.t with
      | false =>
        rw [if_pos rfl, if_pos rfl]
        exact ⟨rfl, fun h => by cases h⟩
      | true =>
        rw [if_neg (show ¬ (true = false) by decide), if_neg (show ¬ (true = false) by decide), h.va]
        by_cases hv : s.v.toList = x.f8.f1.toList
        · rw [if_pos hv, if_pos hv]
          have hb := may_read hm hr hf
          rw [see_ver hb.1]
          obtain ⟨a, b⟩ := set_ver hn (v := x.f8.f2) ⟨by omega, hb.2⟩ h
          exact ⟨a, fun q => (b q).mono (by omega)⟩
        · rw [if_neg hv, if_neg hv]
          exact ⟨rfl, fun h => by cases h⟩
  | false =>
    rw [if_neg (show ¬ (false = true) by decide), if_neg (show ¬ (false = true) by decide)]
    obtain ⟨h3, hA, hN⟩ := may_update hm hr
    cases ha : ansB x with
    | true =>
      rw [if_pos rfl]
      by_cases c4 : x.f7.f0 = 4
      · rw [if_pos c4, if_pos (.inr ⟨rfl, c4⟩)]
        exact ⟨by show (!c.f0) = (!s.t); rw [h.th], fun _ => h.mono (by omega)⟩
      · rw [if_neg c4]
        by_cases c2 : x.f7.f0 = 2
        · rw [if_pos c2, if_pos (.inl ⟨rfl, c2⟩)]
          exact ⟨by show (!c.f0) = (!s.t); rw [h.th], fun _ => h.mono (by omega)⟩
        · rw [if_neg c2, if_neg (show ¬ ((true = true ∧ x.f7.f0 = 2) ∨ (true = true ∧ x.f7.f0 = 4)) from fun q => by rcases q with q | q; exact c2 q.2; exact c4 q.2)]
          rcases hA ha with q | q | q | q
          · rw [if_neg (by omega), if_neg (show ¬ (true = true ∧ x.f7.f0 = 3) from fun z => by have := z.2; omega)]
            exact do_aft hn ⟨by omega, q.2.2⟩ h3 h
          · exact absurd q c2
          · rw [if_pos q.1, if_pos ⟨rfl, q.1⟩]
            obtain ⟨a, b⟩ := set_ver hn (v := x.f7.f1) q.2 h
            exact ⟨a, fun z => (b z).mono (by omega)⟩
          · exact absurd q c4
    | false =>
      rw [if_neg (show ¬ (false = true) by decide), if_neg (show ¬ ((false = true ∧ x.f7.f0 = 2) ∨ (false = true ∧ x.f7.f0 = 4)) from fun q => by rcases q with q | q <;> exact absurd q.1 (by decide)), if_neg (show ¬ (false = true ∧ x.f7.f0 = 3) from fun q => absurd q.1 (by decide))]
      have h0 : x.f7.f1 = 0 := (hN ha).1
      rw [h0]
      exact do_aft hn (v := 0) ⟨by omega, by decide⟩ h3 h
def fndQ (q : List UInt8) (l : List SS) : Nat → Int
  | 0 => -1
  | n + 1 => if ((kl l n).k.toList == q) = true then (n : Int) else fndQ q l n
theorem fnd_q (key : ByteArray) (l : List SS) : ∀ n, fndK key l n = fndQ key.toList l n := by
  intro n
  induction n with
  | zero => rfl
  | succ n ih => rw [fndK, fndQ, ih]
theorem fndQ_at (q : List UInt8) (l : List SS) : ∀ n, (fndQ q l n = -1 ∧ ∀ k, k < n → ¬ (kl l k).k.toList = q) ∨ (∃ k, k < n ∧ fndQ q l n = (k : Int) ∧ (kl l k).k.toList = q) := by
  intro n
  induction n with
  | zero => exact .inl ⟨rfl, fun k hk => absurd hk (Nat.not_lt_zero _)⟩
  | succ n ih =>
    by_cases h : ((kl l n).k.toList == q) = true
    · exact .inr ⟨n, by omega, by rw [fndQ, if_pos h], by simpa using h⟩
    · have e : fndQ q l (n + 1) = fndQ q l n := by rw [fndQ, if_neg h]
      rw [e]
      rcases ih with ⟨h1, h2⟩ | ⟨k, h1, h2⟩
      · refine .inl ⟨h1, fun k hk => ?_⟩
        by_cases ek : k = n
        · rw [ek]; simpa using h
        · exact h2 k (by omega)
      · exact .inr ⟨k, by omega, h2⟩
theorem kl_set (l : List SS) (i k : Nat) (p : SS) : kl (l.set i p) k = if i = k ∧ k < l.length then p else kl l k := by
  unfold kl
  rw [List.getD_eq_getElem?_getD, List.getD_eq_getElem?_getD, List.getElem?_set]
  by_cases e : i = k
  · subst e
    by_cases h : i < l.length
    · simp [h]
    · simp [h]
  · simp [e]
theorem kl_app (l : List SS) (p : SS) (k : Nat) : kl (l ++ [p]) k = if k < l.length then kl l k else if k = l.length then p else zSS := by
  unfold kl
  rw [List.getD_eq_getElem?_getD, List.getD_eq_getElem?_getD]
  by_cases h : k < l.length
  · rw [if_pos h, List.getElem?_append_left h]
  · rw [if_neg h, List.getElem?_append_right (by omega)]
    by_cases e : k = l.length
    · rw [if_pos e, e, Nat.sub_self]; rfl
    · rw [if_neg e, List.getElem?_eq_none (by simp; omega)]; rfl
theorem fndQ_set {l : List SS} {i : Nat} {p : SS} (h : p.k = (kl l i).k) (q : List UInt8) : ∀ n, fndQ q (l.set i p) n = fndQ q l n := by
  intro n
  induction n with
  | zero => rfl
  | succ n ih =>
    have e : (kl (l.set i p) n).k = (kl l n).k := by
      rw [kl_set]
      split
      · rename_i hh
        rw [← hh.1]
        exact h
      · rfl
    rw [fndQ, fndQ, ih, e]
theorem fndQ_app (l : List SS) (p : SS) (q : List UInt8) : ∀ n, n ≤ l.length → fndQ q (l ++ [p]) n = fndQ q l n := by
  intro n
  induction n with
  | zero => intro _; rfl
  | succ n ih =>
    intro hn
    have e : kl (l ++ [p]) n = kl l n := by rw [kl_app, if_pos (by omega)]
    rw [fndQ, fndQ, ih (by omega), e]
/-- What stands under a key. -/
def lookS (q : List UInt8) (ks : List SS) : SS := if fndQ q ks ks.length < 0 then zSS else kl ks (fndQ q ks ks.length).toNat
theorem aft_k (s : SS) (x : S39) : (aftF s x).1.k = s.k := by
  have hs : ∀ s n, (seeF s n).1.k = s.k := fun s n => by unfold seeF; (repeat' split) <;> rfl
  have ht : ∀ s n, (takF s n).1.k = s.k := fun s n => by unfold takF; (repeat' split) <;> rfl
  have hv : ∀ s n, (verF s n).1.k = s.k := fun s n => by unfold verF; split; rfl; exact hs s n
  have hg : ∀ s n, (goeF s n).1.k = s.k := fun s n => by unfold goeF; split; rfl; exact ht s n
  have hp : ∀ s v n, (putF s v n).1.k = s.k := fun s v n => ht s n
  unfold aftF
  repeat' split
  all_goals first | rfl | exact hs _ _ | exact hv _ _ | exact hg _ _ | exact hp _ _ _ | exact (hp _ _ _).trans (hv _ _)
theorem look_set {l : List SS} {i : Nat} {p : SS} (hi : i < l.length) (h : p.k = (kl l i).k) (hl : fndQ p.k.toList l l.length = (i : Int)) (q : List UInt8) : lookS q (l.set i p) = if q = p.k.toList then p else lookS q l := by
  unfold lookS
  rw [List.length_set, fndQ_set h]
  by_cases e : q = p.k.toList
  · subst e
    rw [if_pos rfl, hl, if_neg (by omega), Int.toNat_natCast, kl_set, if_pos ⟨rfl, hi⟩]
  · rw [if_neg e]
    rcases fndQ_at q l l.length with ⟨h1, _⟩ | ⟨k, h1, h2, h3⟩
    · rw [h1, if_pos (by decide), if_pos (by decide)]
    · rw [h2, if_neg (by omega), if_neg (by omega), Int.toNat_natCast, kl_set, if_neg (fun hh => e (by rw [← h3, ← hh.1, h]))]
theorem RelS.any_k {n : Nat} {c : SC} {s : SS} (h : RelS n c s) (k : ByteArray) : RelS n c ⟨k, s.t, s.v, s.lo, s.fr⟩ := ⟨h.th, h.va, h.lo, h.fr, h.b1, h.b2, h.kn⟩
/-- A step of both runs. -/
theorem stp_rel {n : Nat} (hn : n ≤ 1000000000000) {κ : KF} {ks : List SS} {c : S39} (hm : mayB c = true) (h : ∀ q, RelS n (κ q) (lookS q ks)) :
    match stpS ks c with
    | none => (hapF (κ c.f3.toList) c).2 = false
    | some k2 => (hapF (κ c.f3.toList) c).2 = true ∧ ∀ q, RelS (n + 1) (updK κ c.f3.toList (hapF (κ c.f3.toList) c).1 q) (lookS q k2) := by
  have hk := at_lt ks c
  have hfind : fndQ c.f3.toList (addS ks c) (addS ks c).length = ((atS ks c : Nat) : Int) ∧ (kl (addS ks c) (atS ks c)).k.toList = c.f3.toList ∧ RelS n (κ c.f3.toList) (kl (addS ks c) (atS ks c)) ∧ ∀ q, RelS n (κ q) (lookS q (addS ks c)) := by
    unfold addS atS
    rw [fnd_q]
    rcases fndQ_at c.f3.toList ks ks.length with ⟨h1, h2⟩ | ⟨k, h1, h2, h3⟩
    · rw [h1, if_pos (by decide), if_pos (by decide)]
      have e1 : kl (ks ++ [(⟨c.f3, false, ⟨#[]⟩, 0, 0⟩ : SS)]) ks.length = ⟨c.f3, false, ⟨#[]⟩, 0, 0⟩ := by rw [kl_app, if_neg (by omega), if_pos rfl]
      have hz : lookS c.f3.toList ks = zSS := by unfold lookS; rw [h1, if_pos (by decide)]
      have hr : RelS n (κ c.f3.toList) ⟨c.f3, false, ⟨#[]⟩, 0, 0⟩ := by have h5 := (h c.f3.toList); rw [hz] at h5; exact h5.any_k c.f3
      have ef : fndQ c.f3.toList (ks ++ [(⟨c.f3, false, ⟨#[]⟩, 0, 0⟩ : SS)]) (ks ++ [(⟨c.f3, false, ⟨#[]⟩, 0, 0⟩ : SS)]).length = ((ks.length : Nat) : Int) := by
        rw [List.length_append]
        show fndQ _ _ (ks.length + 1) = _
        rw [fndQ, e1, if_pos (by exact beq_self_eq_true _)]
      refine ⟨ef, by rw [e1], by rw [e1]; exact hr, fun q => ?_⟩
      by_cases eq : q = c.f3.toList
      · subst eq
        unfold lookS
        rw [ef, if_neg (by omega), Int.toNat_natCast, e1]
        exact hr
      · have e2 : fndQ q (ks ++ [(⟨c.f3, false, ⟨#[]⟩, 0, 0⟩ : SS)]) (ks ++ [(⟨c.f3, false, ⟨#[]⟩, 0, 0⟩ : SS)]).length = fndQ q ks ks.length := by
          rw [List.length_append]
          show fndQ _ _ (ks.length + 1) = _
          rw [fndQ, e1, if_neg (by simpa using fun z => eq z.symm), fndQ_app _ _ _ _ (Nat.le_refl _)]
        have e3 : lookS q (ks ++ [(⟨c.f3, false, ⟨#[]⟩, 0, 0⟩ : SS)]) = lookS q ks := by
          unfold lookS
          rw [e2]
          rcases fndQ_at q ks ks.length with ⟨g1, _⟩ | ⟨k, g1, g2, _⟩
          · rw [g1, if_pos (by decide), if_pos (by decide)]
          · rw [g2, if_neg (by omega), if_neg (by omega), Int.toNat_natCast, kl_app, if_pos g1]
        rw [e3]
        exact h q
    · rw [h2, if_neg (by omega), if_neg (by omega), Int.toNat_natCast]
      refine ⟨h2, h3, ?_, h⟩
      have h5 := h c.f3.toList
      unfold lookS at h5
      rw [h2, if_neg (by omega), Int.toNat_natCast] at h5
      exact h5
  obtain ⟨f1, f2, f3, f4⟩ := hfind
  obtain ⟨a, b⟩ := hap_aft hn hm f3
  unfold stpS
  by_cases hp : (aftF (kl (addS ks c) (atS ks c)) c).2 = true
  · rw [if_pos hp]
    refine ⟨a.trans hp, fun q => ?_⟩
    have hkk := aft_k (kl (addS ks c) (atS ks c)) c
    have hkl : (aftF (kl (addS ks c) (atS ks c)) c).1.k.toList = c.f3.toList := by rw [hkk]; exact f2
    rw [look_set hk hkk (by rw [hkl]; exact f1), hkl]
    unfold updK
    by_cases eq : q = c.f3.toList
    · rw [if_pos eq, if_pos eq]
      exact b (a.trans hp)
    · rw [if_neg eq, if_neg eq]
      exact (f4 q).mono (by omega)
  · rw [if_neg hp]
    show (hapF (κ c.f3.toList) c).2 = false
    rw [a]
    simpa using hp
/-- The reference's run of an order. -/
def runO : List S39 → List SS → Option (List SS)
  | [], ks => some ks
  | c :: t, ks => match stpS ks c with
    | none => none
    | some k2 => runO t k2
theorem run_o : ∀ (cs : List S39) (ks : List SS), runB cs ks = (runO cs ks).isSome := by
  intro cs
  induction cs with
  | nil => intro ks; rfl
  | cons c t ih =>
    intro ks
    unfold runB runO
    cases stpS ks c with
    | none => rfl
    | some k2 => exact ih k2
theorem runO_snoc : ∀ (cs : List S39) (c : S39) (ks : List SS), runO (cs ++ [c]) ks = match runO cs ks with | none => none | some k2 => stpS k2 c := by
  intro cs
  induction cs with
  | nil =>
    intro c ks
    show runO [c] ks = stpS ks c
    unfold runO
    cases stpS ks c <;> rfl
  | cons d t ih =>
    intro c ks
    rw [List.cons_append, runO, runO]
    cases stpS ks d with
    | none => rfl
    | some k2 => exact ih c k2
def runR (l : List S39) (xs : List Int) : Bool := runB (xs.map (rd_T39 l)) []
theorem has_con {pre : List Int} (h : ∀ x ∈ pre, 0 ≤ x) (k : Nat) : hasI pre (k : Int) = (pre.map Int.toNat).contains k := by
  unfold hasI
  rw [Bool.eq_iff_iff]
  simp only [List.contains_iff_mem, List.mem_map]
  constructor
  · intro hk
    exact ⟨(k : Int), hk, Int.toNat_natCast k⟩
  · rintro ⟨x, hx, e⟩
    have h2 := h x hx
    have h3 : x = (k : Int) := by omega
    rw [← h3]
    exact hx
theorem rdy_stn {l : List S39} {xs : List Int} {i : Nat} (h : ∀ x ∈ xs, 0 ≤ x) : stnI l xs (i : Int) = rdyB l ((xs.take i).map Int.toNat) (ix xs (i : Int)).toNat := by
  unfold stnI rdyB
  congr 1
  funext k
  rw [Int.toNat_natCast, has_con (fun x hx => h x (List.mem_of_mem_take hx)), rd_cl', Bool.or_comm]
theorem whl_whl {l : List S39} {xs : List Int} (h : ∀ x ∈ xs, 0 ≤ x) : whlI l xs = whlB l (xs.map Int.toNat) := by
  unfold whlI whlB
  congr 1
  funext k
  rw [has_con h]
theorem ix_get {xs : List Int} {i : Nat} (h : i < xs.length) : ix xs (i : Int) = xs[i] := by
  unfold ix
  rw [Int.toNat_natCast, List.getD_eq_getElem?_getD, List.getElem?_eq_getElem h]
  rfl
theorem isoB_true {l : List S39} {xs : List Int} {i : Nat} (h : i < xs.length) : isoB l xs (i : Int) = true ↔ 0 ≤ xs[i] ∧ xs[i] < l.length ∧ hasI (xs.take i) xs[i] = false ∧ ((rd_T39 l xs[i]).f2 && !ansB (rd_T39 l xs[i])) = false := by
  unfold isoB
  rw [ix_get h, Int.toNat_natCast]
  simp only [Bool.not_eq_true', Bool.or_eq_false_iff, decide_eq_false_iff_not]
  constructor
  · rintro ⟨a, b, c, d⟩
    exact ⟨by omega, by omega, c, d⟩
  · rintro ⟨a, b, c, d⟩
    exact ⟨by omega, by omega, c, d⟩
theorem iso_aux {l : List S39} {xs : List Int} : ∀ (m i : Nat), i + m = xs.length → (∀ x ∈ xs.take i, 0 ≤ x) → (ordB l ((xs.take i).map Int.toNat) (xs.drop i) = true ↔ ∀ j, i ≤ j → j < xs.length → isoB l xs (j : Int) = true) := by
  intro m
  induction m with
  | zero =>
    intro i hi _
    rw [show i = xs.length by omega, List.drop_length]
    exact ⟨fun _ j h1 h2 => absurd h2 (by omega), fun _ => rfl⟩
  | succ m ih =>
    intro i hi hp
    have hil : i < xs.length := by omega
    have e2 : xs.drop i = xs[i] :: xs.drop (i + 1) := List.drop_eq_getElem_cons hil
    have e3 : xs.take (i + 1) = xs.take i ++ [xs[i]] := List.take_succ_eq_append_getElem hil
    rw [e2, ord_step]
    by_cases hx : 0 ≤ xs[i]
    · have hn : ((xs[i].toNat : Nat) : Int) = xs[i] := by omega
      have hc := has_con hp xs[i].toNat
      rw [hn] at hc
      have hrec := ih (i + 1) (by omega) (by
        intro x hm
        rw [e3] at hm
        rcases List.mem_append.mp hm with h | h
        · exact hp x h
        · rw [List.mem_singleton.mp h]; exact hx)
      rw [e3, List.map_append, List.map_cons, List.map_nil] at hrec
      have ec : rd_T39 l xs[i] = cl l xs[i].toNat := rfl
      have hb := isoB_true (l := l) hil
      rw [hc, ec] at hb
      simp only [Bool.and_eq_true, decide_eq_true_eq, Bool.not_eq_true']
      constructor
      · rintro ⟨h1, h2, h3, h4, h5⟩ j hj1 hj2
        by_cases hji : j = i
        · subst hji
          exact hb.mpr ⟨h1, h2, h3, h4⟩
        · exact hrec.mp h5 j (by omega) hj2
      · intro h
        obtain ⟨h1, h2, h3, h4⟩ := hb.mp (h i (Nat.le_refl _) hil)
        exact ⟨h1, h2, h3, h4, hrec.mpr fun j hj1 hj2 => h j (by omega) hj2⟩
    · rw [decide_eq_false hx, Bool.false_and]
      constructor
      · intro h; cases h
      · intro h
        exact absurd ((isoB_true hil).mp (h i (Nat.le_refl _) hil)).1 hx
theorem iso_ord (l : List S39) (xs : List Int) : isoI l xs = ordB l [] xs := by
  rw [Bool.eq_iff_iff]
  have h := iso_aux (l := l) (xs := xs) xs.length 0 (by omega) (by simp)
  rw [List.take_zero, List.map_nil, List.drop_zero] at h
  rw [h]
  unfold isoI
  rw [List.all_eq_true]
  exact ⟨fun q j _ hj => q j (List.mem_range.mpr hj), fun q j hj => q j (Nat.zero_le _) (List.mem_range.mp hj)⟩
theorem iso_len {l : List S39} {xs : List Int} (h : isoI l xs = true) : xs.length ≤ l.length := by
  unfold isoI at h
  rw [List.all_eq_true] at h
  have hb : ∀ j (hj : j < xs.length), _ := fun j hj => (isoB_true hj).mp (h j (List.mem_range.mpr hj))
  have hn : (xs.map Int.toNat).Nodup := by
    rw [List.Nodup, List.pairwise_iff_getElem]
    intro i j hi hj hij he
    rw [List.length_map] at hi hj
    rw [List.getElem_map, List.getElem_map] at he
    obtain ⟨a0, -, -, -⟩ := hb i hi
    obtain ⟨b0, -, b2, -⟩ := hb j hj
    have e : xs[i] = xs[j] := by omega
    unfold hasI at b2
    rw [← Bool.not_eq_true, List.contains_iff_mem] at b2
    exact b2 (by rw [← e]; exact List.mem_take_iff_getElem.mpr ⟨i, by omega, rfl⟩)
  have h2 := nodup_len l.length (xs.map Int.toNat) hn (by
    intro x hx
    obtain ⟨y, hy, rfl⟩ := List.mem_map.mp hx
    obtain ⟨j, hj, rfl⟩ := List.getElem_of_mem hy
    obtain ⟨a0, a1, -, -⟩ := hb j hj
    omega)
  rw [List.length_map] at h2
  exact h2
/-- Does the i-th place of an order hold? -/
def okI (runR : List S39 → List Int → Bool) (l : List S39) (xs : List Int) (i : Nat) : Bool := stnI l xs (i : Int) && runR l (xs.take (i + 1))
def rhG (runR : List S39 → List Int → Bool) (l : List S39) (xs : List Int) : Nat → Nat → Int × Int
  | 0, _ => if whlI l xs then (0, 0) else ((xs.length : Int), 262)
  | n + 1, i => if okI runR l xs i then rhG runR l xs n (i + 1) else ((i : Int), 262)
open Classical in
/-- What the reference's Holds answers. -/
noncomputable def rhldA (runR : List S39 → List Int → Bool) (l : List S39) (xs : List Int) : Int × Int := if refF l = 0 then (if isoI l xs then rhG runR l xs xs.length 0 else (0, 1)) else (0, 260)
theorem iso_in {l : List S39} {xs : List Int} (h : isoI l xs = true) : ∀ j : Nat, j < xs.length → 0 ≤ ix xs (j : Int) ∧ ix xs (j : Int) < l.length := by
  intro j hj
  unfold isoI at h
  rw [List.all_eq_true] at h
  have h2 := h j (List.mem_range.mpr hj)
  unfold isoB at h2
  simp at h2
  omega
theorem ix_take {xs : List Int} {n j : Nat} (h : j < n) : ix (xs.take n) (j : Int) = ix xs (j : Int) := by
  unfold ix
  rw [List.getD_eq_getElem?_getD, List.getD_eq_getElem?_getD, List.getElem?_take, if_pos (by simpa using h)]
theorem rh_to {p q : Int × Int} (h : p = q) : Ending.returned (.tuple #[.int .i64 q.1, .int .i64 q.2]) = .returned (.tuple #[.int .i64 p.1, .int .i64 p.2]) := by rw [h]
set_option maxRecDepth 100000 in
set_option maxHeartbeats 8000000 in
theorem rholds_any (runR : List S39 → List Int → Bool) (RUN : ∀ (A Ax : Option Addr) (c cx : Nat) (l : List S39) (xs : List Int) (W : World), Kd.C k39 W A l.length l → l.length ≤ c → Kd.C (Kd.int .i64) W Ax xs.length xs → xs.length ≤ cx → l.length ≤ 1000000000000 → xs.length ≤ 1000000000000 → (∀ j : Nat, j < xs.length → 0 ≤ ix xs (j : Int) ∧ ix xs (j : Int) < l.length) → Calls Try.prog 63 #[.slice A l.length c, .slice Ax xs.length cx] W fun e w' => e = .returned (.bool (runR l xs)) ∧ Below W.heap.size W w') (w : World) (A Ax : Option Addr) (c cx : Nat) (l : List S39) (xs : List Int) (hr : Kd.C k39 w A l.length l) (hc : l.length ≤ c) (hx : Kd.C (Kd.int .i64) w Ax xs.length xs) (hcx : xs.length ≤ cx) (hn : l.length ≤ 1000000000000) (hnx : xs.length ≤ 100000000000000) :
    Calls Try.prog 37 #[.slice A l.length c, .slice Ax xs.length cx] w fun e w' => e = .returned (.tuple #[.int .i64 (rhldA runR l xs).1, .int .i64 (rhldA runR l xs).2]) ∧ Below w.heap.size w w' := by
  have HR := Lib.hid hr
  have HX := Lib.hid hx
  have HC := Lib.hid (And.intro hc hcx)
  have HN := Lib.hid (And.intro hn hnx)
  have HB := Lib.hid (Below.refl w.heap.size w)
  have RU := Lib.hid RUN
  have HCHK := Lib.hid (fun r (W : World) (hW : Below w.heap.size w W) (h : refF l = r) => (show Calls Try.prog 17 #[.slice A l.length c] W (fun e w' => e = .returned (.int .i64 r) ∧ Below W.heap.size W w') from h ▸ rcheck_any W A c l (Kd.C_below HR.out hW) HC.out.1 (by have := HN.out.1; omega)))
  have HISO := Lib.hid (fun b (W : World) (hW : Below w.heap.size w W) (h : isoI l xs = b) => (show Calls Try.prog 61 #[.slice A l.length c, .slice Ax xs.length cx] W (fun e w' => e = .returned (.bool b) ∧ Below W.heap.size W w') from h ▸ isorder_any W A Ax c cx l xs (Kd.C_below HR.out hW) (Kd.C_below HX.out hW) HC.out.2 HN.out.1 HN.out.2))
  clear hr hx hc hcx hn hnx RUN
  rcases ref_two l with he | he
  · have HCH := Lib.hid (HCHK.out 0 w HB.out he)
    cases hi : isoI l xs with
    | false =>
      have HF := Lib.hid (show rhldA runR l xs = (0, 1) by unfold rhldA; rw [if_pos he, if_neg (by rw [hi]; decide)])
      have HI := Lib.hid (fun W hW => HISO.out false W hW hi)
      clear he hi
      go_enter Try.func37, Try.ntmps37
      go_wp2_with (first
        | (go_at_call 17; (with_reducible refine HCH.out.mono ?_); rintro e_ W_ ⟨rfl, hb⟩; replace HB := Lib.hid (below_step HB.out hb); clear hb)
        | (go_at_call 61; (with_reducible refine (HI.out _ HB.out).mono ?_); rintro e_ W_ ⟨rfl, hb⟩; replace HB := Lib.hid (below_step HB.out hb); clear hb)
        | (fail))
      go_ret2
      exact ⟨rh_to HF.out, HB.out⟩
    | true =>
      have HF := Lib.hid (show rhldA runR l xs = rhG runR l xs xs.length 0 by unfold rhldA; rw [if_pos he, if_pos hi])
      have HI := Lib.hid (fun W hW => HISO.out true W hW hi)
      have HIN := Lib.hid (iso_in hi)
      have HLE := Lib.hid (Nat.le_trans (iso_len hi) HN.out.1)
      clear he hi
      go_enter Try.func37, Try.ntmps37
      go_wp2_with (first
        | (go_at_call 17; (with_reducible refine HCH.out.mono ?_); rintro e_ W_ ⟨rfl, hb⟩; replace HB := Lib.hid (below_step HB.out hb); clear hb)
        | (go_at_call 61; (with_reducible refine (HI.out _ HB.out).mono ?_); rintro e_ W_ ⟨rfl, hb⟩; replace HB := Lib.hid (below_step HB.out hb); clear hb)
        | (fail))
      go_loopw [6] (fun v6 wr => ∃ i : Int, v6 = .int .i64 i ∧ (0 ≤ i ∧ i ≤ (xs.length : Int)) ∧ RowKit.Hid (rhldA runR l xs = rhG runR l xs (xs.length - i.toNat) i.toNat) ∧ RowKit.Hid (Below w.heap.size w wr)) (fun v6 _ => ((xs.length : Int) - intOf v6).toNat)
      case atStart => exact ⟨0, rfl, ⟨by omega, by omega⟩, HF, HB⟩
      case round =>
        clear HB
        obtain ⟨i, rfl, ⟨i0, i1⟩, HO, HB⟩ := hrel
        by_cases hlt : i < (xs.length : Int)
        · have c1 : decide (i < (xs.length : Int)) = true := decide_eq_true hlt
          have PI := Lib.hid (show 0 ≤ i ∧ i < (xs.length : Int) ∧ i.toNat < xs.length by omega)
          have pI := eq_true i0
          have qI := eq_true hlt
          have wi : wrap64 (i + 1) = i + 1 := by have h2 := HN.out; unfold wrap64; omega
          have wi2 : IntKind.i64.wrap (i + 1) = i + 1 := (i64_w _).trans wi
          have s1 := eq_true (show i + 1 ≤ (cx : Int) by have := HC.out.2; omega)
          have s2 := eq_true (show 0 ≤ i + 1 by omega)
          have HG := Lib.hid (show rhldA runR l xs = if okI runR l xs i.toNat then rhG runR l xs (xs.length - (i + 1).toNat) (i + 1).toNat else (i, 262) by
            rw [HO.out, show xs.length - i.toNat = (xs.length - (i + 1).toNat) + 1 by omega, rhG, show (i + 1).toNat = i.toNat + 1 by omega, show ((i.toNat : Nat) : Int) = i by omega])
          have XI := Lib.hid (HIN.out i.toNat PI.out.2.2)
          have EI := Lib.hid (show ((i.toNat : Nat) : Int) = i by omega)
          have HST := Lib.hid (fun b (W : World) (hW : Below w.heap.size w W) (h : stnI l xs i = b) => (show Calls Try.prog 62 #[.slice A l.length c, .slice Ax xs.length cx, .int .i64 i] W (fun e w' => e = .returned (.bool b) ∧ Below W.heap.size W w') from h ▸ stands_any W A Ax c cx l xs i (Kd.C_below HR.out hW) HC.out.1 (Kd.C_below HX.out hW) HC.out.2 HN.out.1 HN.out.2 PI.out.1 PI.out.2.1 (by have h2 := XI.out.1; rw [EI.out] at h2; exact h2) (by have h2 := XI.out.2; rw [EI.out] at h2; exact h2)))
          have HTL := Lib.hid (show (xs.take (i.toNat + 1)).length = (i + 1).toNat by rw [List.length_take]; omega)
          have HRU := Lib.hid (fun b (W : World) (hW : Below w.heap.size w W) (h : runR l (xs.take (i.toNat + 1)) = b) => (show Calls Try.prog 63 #[.slice A l.length c, .slice Ax (i + 1).toNat cx] W (fun e w' => e = .returned (.bool b) ∧ Below W.heap.size W w') from by
            have h2 := RU.out A Ax c cx l (xs.take (i.toNat + 1)) W (Kd.C_below HR.out hW) HC.out.1 (by exact Kd.C_take (Kd.C_below HX.out hW) (m := i.toNat + 1) (by have := PI.out; omega)) (by rw [HTL.out]; have := HC.out.2; have := PI.out; omega) HN.out.1 (by rw [HTL.out]; have := HLE.out; have := PI.out; omega) (fun j hj => by
              have hj2 : j < i.toNat + 1 := by have h3 := HTL.out; have h4 := PI.out; omega
              rw [ix_take hj2]
              exact HIN.out j (by have h3 := HTL.out; have h4 := PI.out; omega))
            rw [h, HTL.out] at h2
            exact h2))
          obtain ⟨ad, eA, -⟩ := int_at HX.out i PI.out.1 PI.out.2.1
          cases eA
          clear i0 i1 hlt
          cases hs : stnI l xs i with
          | false =>
            have HE := Lib.hid (show rhldA runR l xs = (i, 262) by rw [HG.out, if_neg (by unfold okI; rw [EI.out, hs]; exact fun h => by cases h)])
            replace HST := Lib.hid (fun W hW => HST.out false W hW hs)
            clear hs
            go_wp2_with (first
              | (go_at_call 62; (with_reducible refine (HST.out _ HB.out).mono ?_); rintro e_ W_ ⟨rfl, hb⟩; replace HB := Lib.hid (below_step HB.out hb); clear hb)
              | (fail))
            go_ret2
            exact ⟨rh_to HE.out, HB.out⟩
          | true =>
            replace HST := Lib.hid (fun W hW => HST.out true W hW hs)
            cases hu : runR l (xs.take (i.toNat + 1)) with
            | false =>
              have HE := Lib.hid (show rhldA runR l xs = (i, 262) by rw [HG.out, if_neg (by unfold okI; rw [EI.out, hs, hu]; exact fun h => by cases h)])
              replace HRU := Lib.hid (fun W hW => HRU.out false W hW hu)
              clear hs hu
              go_wp2_with (first
                | (go_at_call 62; (with_reducible refine (HST.out _ HB.out).mono ?_); rintro e_ W_ ⟨rfl, hb⟩; replace HB := Lib.hid (below_step HB.out hb); clear hb)
                | (go_at_call 63; (with_reducible refine (HRU.out _ HB.out).mono ?_); rintro e_ W_ ⟨rfl, hb⟩; replace HB := Lib.hid (below_step HB.out hb); clear hb)
                | (fail))
              go_ret2
              exact ⟨rh_to HE.out, HB.out⟩
            | true =>
              have HE := Lib.hid (show rhldA runR l xs = rhG runR l xs (xs.length - (i + 1).toNat) (i + 1).toNat by rw [HG.out, if_pos (by unfold okI; rw [EI.out, hs, hu]; rfl)])
              replace HRU := Lib.hid (fun W hW => HRU.out true W hW hu)
              clear hs hu
              go_wp2_with (first
                | (go_at_call 62; (with_reducible refine (HST.out _ HB.out).mono ?_); rintro e_ W_ ⟨rfl, hb⟩; replace HB := Lib.hid (below_step HB.out hb); clear hb)
                | (go_at_call 63; (with_reducible refine (HRU.out _ HB.out).mono ?_); rintro e_ W_ ⟨rfl, hb⟩; replace HB := Lib.hid (below_step HB.out hb); clear hb)
                | (fail))
              go_roundw
              case rel => exact ⟨i + 1, by first | rfl | go_num, ⟨by have := PI.out; omega, by have := PI.out; omega⟩, HE, HB⟩
              case measure => have := PI.out; simp [intOf]; omega
        · have hnl : decide (i < (xs.length : Int)) = false := decide_eq_false hlt
          have ei : i = (xs.length : Int) := by omega
          subst ei
          have HG := Lib.hid (show rhldA runR l xs = if whlI l xs then (0, 0) else ((xs.length : Int), 262) by rw [HO.out, Int.toNat_natCast, Nat.sub_self, rhG])
          have HWH := Lib.hid (fun b (W : World) (hW : Below w.heap.size w W) (h : whlI l xs = b) => (show Calls Try.prog 55 #[.slice A l.length c, .slice Ax xs.length cx] W (fun e w' => e = .returned (.bool b) ∧ Below W.heap.size W w') from h ▸ whole_any W A Ax c cx l xs (fun x W => ranswered_ag x (ansB x) rfl W) (Kd.C_below HR.out hW) HC.out.1 (Kd.C_below HX.out hW) HN.out.1 HN.out.2))
          clear i0 i1 hlt
          cases hw : whlI l xs with
          | false =>
            have HE := Lib.hid (show rhldA runR l xs = ((xs.length : Int), 262) by rw [HG.out, if_neg (by rw [hw]; exact fun h => by cases h)])
            replace HWH := Lib.hid (fun W hW => HWH.out false W hW hw)
            clear hw
            go_wp2_with (first
              | (go_at_call 55; (with_reducible refine (HWH.out _ HB.out).mono ?_); rintro e_ W_ ⟨rfl, hb⟩; replace HB := Lib.hid (below_step HB.out hb); clear hb)
              | (fail))
            go_ret2
            exact ⟨rh_to HE.out, HB.out⟩
          | true =>
            have HE := Lib.hid (show rhldA runR l xs = (0, 0) by rw [HG.out, if_pos hw])
            replace HWH := Lib.hid (fun W hW => HWH.out true W hW hw)
            clear hw
            go_wp2_with (first
              | (go_at_call 55; (with_reducible refine (HWH.out _ HB.out).mono ?_); rintro e_ W_ ⟨rfl, hb⟩; replace HB := Lib.hid (below_step HB.out hb); clear hb)
              | (fail))
            go_ret2
            exact ⟨rh_to HE.out, HB.out⟩
  · have HCH := Lib.hid (HCHK.out 260 w HB.out he)
    have HF := Lib.hid (show rhldA runR l xs = (0, 260) by unfold rhldA; rw [if_neg (by rw [he]; decide)])
    clear he
    go_enter Try.func37, Try.ntmps37
    go_wp2_with (first
      | (go_at_call 17; (with_reducible refine HCH.out.mono ?_); rintro e_ W_ ⟨rfl, hb⟩; replace HB := Lib.hid (below_step HB.out hb); clear hb)
      | (fail))
    go_ret2
    exact ⟨rh_to HF.out, HB.out⟩
/-- Both Holds' loops answer the same. -/
theorem hld_same {l : List S39} {xs : List Int} (h0 : ∀ x ∈ xs, 0 ≤ x ∧ x < l.length) (hm : ∀ i, i < l.length → mayB (cl l i) = true) (hn : xs.length ≤ 1000000000000) :
    ∀ (m i : Nat) (κ : KF) (ks : List SS), i + m = xs.length → runO ((xs.take i).map (rd_T39 l)) [] = some ks → (∀ q, RelS i (κ q) (lookS q ks)) →
      rhG runR l xs m i = hldF l ((xs.take i).map Int.toNat) κ ((xs.drop i).map Int.toNat) := by
  have hpos : ∀ x ∈ xs, 0 ≤ x := fun x hx => (h0 x hx).1
  intro m
  induction m with
  | zero =>
    intro i κ ks hi _ _
    have e : i = xs.length := by omega
    subst e
    rw [List.take_length, List.drop_length, List.map_nil, hldF, rhG, whl_whl hpos, List.length_map]
  | succ m ih =>
    intro i κ ks hi hr hrel
    have hil : i < xs.length := by omega
    have hx := h0 _ (List.getElem_mem hil)
    have e1 : ix xs (i : Int) = xs[i] := by
      unfold ix
      rw [Int.toNat_natCast, List.getD_eq_getElem?_getD, List.getElem?_eq_getElem hil]
      rfl
    have e2 : xs.drop i = xs[i] :: xs.drop (i + 1) := List.drop_eq_getElem_cons hil
    have e3 : xs.take (i + 1) = xs.take i ++ [xs[i]] := List.take_succ_eq_append_getElem hil
    have ec : rd_T39 l xs[i] = cl l xs[i].toNat := rfl
    have hmc : mayB (cl l xs[i].toNat) = true := hm _ (by omega)
    have hst := stp_rel (n := i) (by omega) (κ := κ) (ks := ks) (c := cl l xs[i].toNat) hmc hrel
    have hrun : runR l (xs.take (i + 1)) = (stpS ks (cl l xs[i].toNat)).isSome := by
      unfold runR
      rw [run_o, e3, List.map_append, List.map_cons, List.map_nil, runO_snoc, hr, ec]
    have hlen : ((xs.take i).map Int.toNat).length = i := by rw [List.length_map, List.length_take]; omega
    rw [rhG, e2, List.map_cons, hldF, hlen]
    unfold okI
    rw [rdy_stn hpos, e1, hrun]
    have hky : kyF l xs[i].toNat = (cl l xs[i].toNat).f3.toList := rfl
    rw [hky]
    cases hs : stpS ks (cl l xs[i].toNat) with
    | none =>
      rw [hs] at hst
      rw [hst]
      simp
    | some k2 =>
      rw [hs] at hst
      obtain ⟨ha, hb⟩ := hst
      rw [ha]
      by_cases hrd : rdyB l ((xs.take i).map Int.toNat) xs[i].toNat = true
      · have hih := ih (i + 1) (updK κ (cl l xs[i].toNat).f3.toList (hapF (κ (cl l xs[i].toNat).f3.toList) (cl l xs[i].toNat)).1) k2 (by omega) (by rw [e3, List.map_append, List.map_cons, List.map_nil, runO_snoc, hr, ec]; exact hs) hb
        rw [e3, List.map_append, List.map_cons, List.map_nil] at hih
        simp [hrd, hih]
      · have hrd' : rdyB l ((xs.take i).map Int.toNat) xs[i].toNat = false := by simpa only [Bool.not_eq_true] using hrd
        rw [hrd']
        simp
/-- Both Holds answer the same. -/
theorem hld_eq {l : List S39} {xs : List Int} (hn : l.length ≤ 1000000000000) : rhldA runR l xs = hldA l xs := by
  unfold rhldA hldA
  by_cases hr : refF l = 0
  · rw [if_pos hr, if_pos hr, ← iso_ord]
    cases hi : isoI l xs with
    | false => rw [if_neg (by decide), if_neg (by decide)]
    | true =>
      rw [if_pos rfl, if_pos rfl]
      have h0 := iso_in hi
      have hl := iso_len hi
      have hm : ∀ i, i < l.length → mayB (cl l i) = true := fun i h => by
        have ho : okTo l l.length := by
          unfold refF at hr
          split at hr
          · assumption
          · cases hr
        have h1 := ho (i : Int) (by omega) (by omega)
        exact bad1_may h1.1
      exact hld_same (fun x hx => by
        obtain ⟨j, hj, rfl⟩ := List.getElem_of_mem hx
        have h2 := h0 j hj
        rw [ix_get hj] at h2
        exact h2) hm (by omega) xs.length 0 zK [] (by omega) rfl (fun q => by
          rw [show lookS q [] = zSS from rfl]
          exact ⟨rfl, rfl, rfl, rfl, by decide, by decide, fun h => by cases h⟩)
  · rw [if_neg hr, if_neg hr]
end Go.Proofs.Ytbakmkoppieelaa.PLinearChecks

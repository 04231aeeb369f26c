/- What is proved: contracts of functions that the law uses, each under the conditions that its theorem states. -/
import Derived.Test.YtmjmjjhfficilaaDoorPSpanBackx0
import Derived.Test.YtmjmjjhfficilaaDoorPSpanBackx1
import Derived.Test.YtmjmjjhfficilaaDoorPSpanBackx2
import Derived.Test.YtmjmjjhfficilaaDoorPSpanBackx3
import Derived.Test.YtmjmjjhfficilaaDoorPSpanBackx4
import Derived.Test.YtmjmjjhfficilaaDoorPSpanBackx5
import Derived.Test.YtmjmjjhfficilaaDoorPSpanBackx6
import Derived.Test.YtmjmjjhfficilaaDoorPSpanBackx7
import Derived.Test.YtmjmjjhfficilaaDoorTexts
namespace Go.Proofs.YtmjmjjhfficilaaDoor.PSpanBack
open Go.RowKit Go.Proofs.YtmjmjjhfficilaaDoorW.PrintWords Go.Proofs.YtmjmjjhfficilaaDoorW.PrintLast Go.Proofs.YtmjmjjhfficilaaDoorW.PrintMore
set_option linter.unusedVariables false
set_option linter.unusedSimpArgs false
/-! #### equal, awake -/
section
open Go.Proofs.YtmjmjjhfficilaaDoor.Texts
def pX (x : S28) : R := (x.f0.toList, x.f1.toList)
theorem rdX (l : List S28) (i : Nat) (h : i < l.length) : rd_T28 l (i : Int) = l[i] := by unfold rd_T28; simp [List.getD, List.getElem?_eq_getElem h]
theorem same_f (got : List S27) (wnt : List S28) (h : got.map pR = wnt.map pX) (hl : got.length ≤ 4294967296) : ∀ (m i k : Nat), i + m = got.length → 2 * m + 2 ≤ k → hawserlaw06_same.l0 k got wnt (i : Int) = some true := by
  have hlen : got.length = wnt.length := by have := congrArg List.length h; simpa using this
  intro m
  induction m with
  | zero =>
    intro i k hi hk
    obtain ⟨k, rfl⟩ : ∃ q, k = q + 2 := ⟨k - 2, by omega⟩
    rw [hawserlaw06_same.l0, if_neg (by omega), hawserlaw06_same.j1, if_neg (by decide), hlen]
    simp
  | succ m ih =>
    intro i k hi hk
    obtain ⟨k, rfl⟩ : ∃ q, k = q + 2 := ⟨k - 2, by omega⟩
    have hlt : i < got.length := by omega
    have hlt2 : i < wnt.length := by omega
    have e := congrArg (fun l => l[i]?) h
    simp only [List.getElem?_map, List.getElem?_eq_getElem hlt, List.getElem?_eq_getElem hlt2, Option.map_some] at e
    injection e with e
    have e0 : got[i].f0.toList = wnt[i].f0.toList := congrArg Prod.fst e
    have e1 : got[i].f1.toList = wnt[i].f1.toList := congrArg Prod.snd e
    rw [hawserlaw06_same.l0, if_pos (by omega), show decide ((i : Int) < (wnt.length : Int)) = true from decide_eq_true (by omega), hawserlaw06_same.j1, if_pos rfl, if_pos (by omega), if_pos (by omega), if_pos (by omega), rdR got i hlt, rdX wnt i hlt2, if_pos e0, if_pos e1, w_up i (by omega)]
    exact ih (i + 1) k (by omega) (by omega)
def conv (x : S27) : S28 := ⟨x.f0, x.f1⟩
theorem plain_l0 (l : List S27) (hl : l.length ≤ 1073741824) : ∀ (m i k : Nat), i + m = l.length → hawserlaw06_plain.l0 (m + 1 + k) l ((l.take i).map conv) (i : Int) = some (l.map conv) := by
  intro m
  induction m with
  | zero =>
    intro i k hi
    obtain rfl : i = l.length := by omega
    rw [show 0 + 1 + k = k + 1 by omega, hawserlaw06_plain.l0, if_neg (by omega), List.take_length]
  | succ m ih =>
    intro i k hi
    have hlt : i < l.length := by omega
    have h := ih (i + 1) k (by omega)
    rw [List.take_add_one, List.getElem?_eq_getElem hlt, List.map_append] at h
    rw [show m + 1 + 1 + k = (m + 1 + k) + 1 by omega, hawserlaw06_plain.l0, if_pos (by omega), if_pos (by omega), if_pos (by simp; omega), rdR l i hlt, w_up i (by omega)]
    exact h
theorem conv_p (l : List S27) : (l.map conv).map pX = l.map pR := by rw [List.map_map]; rfl

theorem equal_rows (l m : List S27) (e : l.map pR = m.map pR) (hm : m.length ≤ 1073741824) : ∃ k, hawserlaw06_equal.f k l m = some true := by
  have hl : l.length = m.length := by have := congrArg List.length e; simpa using this
  have h1 := plain_l0 m hm m.length 0 (m.length + 1) (by omega)
  have h2 := same_f l (m.map conv) (by rw [conv_p]; exact e) (by omega) l.length 0 (2 * l.length + 2) (by omega) (Nat.le_refl _)
  refine ⟨m.length + 1 + (m.length + 1), ?_⟩
  unfold hawserlaw06_equal.f hawserlaw06_plain.f hawserlaw06_same.f
  have h3 : hawserlaw06_plain.l0 (m.length + 1 + (m.length + 1)) m [] 0 = some (m.map conv) := h1
  rw [show 2 * l.length + 2 = m.length + 1 + (m.length + 1) by omega] at h2
  have h4 : hawserlaw06_same.l0 (m.length + 1 + (m.length + 1)) l (m.map conv) 0 = some true := h2
  rw [h3, Option.bind_some, h4, Option.bind_some]
theorem mkL (l : List UInt8) : (⟨l.toArray⟩ : ByteArray).toList = l := by rw [ByteArray.toList_eq]
theorem rB_p : pR rB = ([98], [99]) := by unfold pR rB; rw [show ((⟨#[98]⟩ : ByteArray).toList) = [98] from mkL [98], show ((⟨#[99]⟩ : ByteArray).toList) = [99] from mkL [99]]
theorem rA_p : pR rA = ([97], [98]) := by unfold pR rA; rw [show ((⟨#[97]⟩ : ByteArray).toList) = [97] from mkL [97], show ((⟨#[98]⟩ : ByteArray).toList) = [98] from mkL [98]]
theorem rC_p : pR rC = ([97], [99]) := by unfold pR rC; rw [show ((⟨#[97]⟩ : ByteArray).toList) = [97] from mkL [97], show ((⟨#[99]⟩ : ByteArray).toList) = [99] from mkL [99]]
theorem awake_law : ∃ k, hawserlaw06_awake.f k = some true := by
  have hn : NF ([rC].map pR) := by
    rw [List.map_cons, List.map_nil, rC_p]
    exact ⟨fun x hx => (by rw [List.mem_singleton.1 hx]; exact .inr (by decide)), List.pairwise_singleton _ _⟩
  have e : (mergeF [rB, rA]).map pR = [rC].map pR := unique _ _ (mergeF_nf _) hn (fun k => by
    rw [mergeF_has]
    simp only [List.map_cons, List.map_nil, rA_p, rB_p, rC_p, hasL_cons]
    have h0 : hasL [] k = false := rfl
    rw [h0, Bool.or_false, Bool.or_false]
    unfold has
    simp only
    have n1 : (([99] : T) == []) = false := rfl
    have n2 : (([98] : T) == []) = false := rfl
    rw [n1, n2]
    cases a1 : lt k [97] with
    | true =>
      have a2 := Texts.trans a1 (show lt [97] [98] = true by decide)
      rw [a2]; rfl
    | false =>
      cases a2 : lt k [98] with
      | true =>
        have a3 := Texts.trans a2 (show lt [98] [99] = true by decide)
        rw [a3]; rfl
      | false => simp)
  obtain ⟨k, hk⟩ := equal_rows _ _ e (by decide)
  refine ⟨k, ?_⟩
  unfold hawserlaw06_awake.f
  rw [show span_Normal.f [(⟨(⟨#[98]⟩ : ByteArray), (⟨#[99]⟩ : ByteArray)⟩ : S27), (⟨(⟨#[97]⟩ : ByteArray), (⟨#[98]⟩ : ByteArray)⟩ : S27)] = some (mergeF [rB, rA]) from by
    unfold span_Normal.f span_merged.f
    rw [if_pos (by decide)]
    rfl, Option.bind_some]
  rw [show ([(⟨(⟨#[97]⟩ : ByteArray), (⟨#[99]⟩ : ByteArray)⟩ : S27)] : List S27) = [rC] from rfl, hk]
  rfl
end
/-! #### normal -/
section
open Go.Proofs.YtmjmjjhfficilaaDoor.Texts
theorem normal_l0 (l : List S27) (hl : l.length ≤ 4294967294) (hn : NF (l.map pR)) : ∀ (m i k : Nat), i + m = l.length → hawserlaw06_normal.l0 (2 * m + 1 + k) l (i : Int) = some true := by
  intro m
  induction m with
  | zero =>
    intro i k hi
    rw [show 2 * 0 + 1 + k = k + 1 by omega, hawserlaw06_normal.l0, if_neg (by omega)]
  | succ m ih =>
    intro i k hi
    have hlt : i < l.length := by omega
    have h := ih (i + 1) k (by omega)
    have hok := hn.1 (pR l[i]) (List.mem_map_of_mem (List.getElem_mem _))
    have hj : hawserlaw06_normal.j1 (2 * m + 1 + k + 1) l (i : Int) false = some true := by
      rw [hawserlaw06_normal.j1, if_neg (by decide), w_up i (by omega)]
      by_cases q : i + 1 < l.length
      · have hp := List.pairwise_iff_getElem.1 hn.2 i (i + 1) (by rw [List.length_map]; omega) (by rw [List.length_map]; exact q) (by omega)
        rw [List.getElem_map, List.getElem_map] at hp
        rw [if_pos (by omega), if_pos (by omega), if_pos (by omega), rdR l i hlt, if_neg (show ¬ l[i].f1.toList = [] from hp.1), if_pos (by omega), rdR l (i + 1) q, if_pos (show Op.bytesLess l[i].f1.toList l[i + 1].f0.toList = true from hp.2)]
        exact h
      · rw [if_neg (by omega)]
        exact h
    rw [show 2 * (m + 1) + 1 + k = (2 * m + 1 + k + 1) + 1 by omega, hawserlaw06_normal.l0, if_pos (by omega), if_pos (by omega), rdR l i hlt]
    by_cases q : l[i].f1.toList = []
    · rw [if_pos q]; exact hj
    · have hlt2 : Op.bytesLess l[i].f0.toList l[i].f1.toList = true := by
        rcases hok with h1 | h1
        · exact absurd h1 q
        · exact h1
      rw [if_neg q, hlt2]
      exact hj
theorem normal_f (l : List S27) (hl : l.length ≤ 4294967294) (hn : NF (l.map pR)) : hawserlaw06_normal.f (2 * l.length + 1) l = some true := normal_l0 l hl hn l.length 0 0 (by omega)
end
/-! #### what Buckets answers of the ranges of some buckets -/
section
open Go.Proofs.YtmjmjjhfficilaaDoor.Texts
theorem mergeF_nf' (l : List S27) : NF ((mergeF l).map pR) := mergeF_nf l
theorem mergeF_has' (l : List S27) (k : T) : hasL ((mergeF l).map pR) k = hasL (l.map pR) k := (merged_ok l).2 k
theorem has_max {x r : R} {k : T} (hx : has x k = true) (hr : has r k = true) (h : lt r.1 x.1 = true) : has r x.1 = true ∧ has x x.1 = true := by
  obtain ⟨a1, a2⟩ := has_iff.1 hx
  obtain ⟨b1, b2⟩ := has_iff.1 hr
  exact ⟨has_iff.2 ⟨asymm h, b2.imp id (fun e => le_lt a1 e)⟩, has_iff.2 ⟨irrefl _, a2.imp id (fun e => le_lt a1 e)⟩⟩
theorem has_low {x r : R} {k : T} (hx : has x k = true) (hr : has r k = true) (h : lt r.1 x.1 = false) : has x r.1 = true ∧ has r r.1 = true := by
  obtain ⟨a1, a2⟩ := has_iff.1 hx
  obtain ⟨b1, b2⟩ := has_iff.1 hr
  exact ⟨has_iff.2 ⟨h, a2.imp id (fun e => le_lt b1 e)⟩, has_iff.2 ⟨irrefl _, b2.imp id (fun e => le_lt b1 e)⟩⟩
theorem touch_M {M : List S27} (h : NF (M.map pR)) (b : Nat) (r : S27) (hr : ok (pR r)) : wantB M (b, r) = true ↔ ∃ k, has (pR r) k = true ∧ hasL (M.map pR) k = true := by
  unfold wantB meetsB
  simp only [Bool.and_eq_true, Bool.or_eq_true, decide_eq_true_eq]
  constructor
  · rintro ⟨-, h1 | h1⟩
    · exact ⟨_, has_from hr, h1⟩
    · obtain ⟨x, hx, h2⟩ := List.any_eq_true.1 h1
      exact ⟨_, h2, hasL_iff.2 ⟨pR x, List.mem_map_of_mem hx, has_from (h.1 _ (List.mem_map_of_mem hx))⟩⟩
  · rintro ⟨k, h1, h2⟩
    obtain ⟨y, hy, h3⟩ := hasL_iff.1 h2
    obtain ⟨x, hx, rfl⟩ := List.mem_map.1 hy
    refine ⟨List.length_pos_of_mem hx, ?_⟩
    cases e : lt (pR r).1 (pR x).1 with
    | true => exact .inr (List.any_eq_true.2 ⟨x, hx, (has_max h3 h1 e).1⟩)
    | false => exact .inl (hasL_iff.2 ⟨_, hy, (has_low h3 h1 e).1⟩)
theorem pR_bk (d : Int) (b : Nat) : pR (bk d b) = (lowL d b, hiL d b) := by
  show ((mkB (lowL d b)).toList, (mkB (hiL d b)).toList) = _
  rw [mkB_list, mkB_list]
theorem ok_bk (d : Int) (b : Nat) (hd : d = 1 ∨ d = 2 ∨ d = 3) (hb : b < cntN d) : ok (pR (bk d b)) := by
  rw [pR_bk]
  unfold hiL
  by_cases h : b + 1 < cntN d
  · rw [if_pos h]; exact .inr ((low_lt d b (b + 1) hd hb h).2 (by omega))
  · rw [if_neg h]; exact .inl rfl
theorem same_ints (l : List Int) (hl : l.length ≤ 4096) : ∀ (m i k : Nat), i + m = l.length → hawserlaw06_sameInts.l0 (2 * m + 2 + k) l l (i : Int) = some true := by
  intro m
  induction m with
  | zero =>
    intro i k hi
    rw [show 2 * 0 + 2 + k = (k + 1) + 1 by omega, hawserlaw06_sameInts.l0, if_neg (by omega), hawserlaw06_sameInts.j1, if_neg (by decide)]
    simp
  | succ m ih =>
    intro i k hi
    rw [show 2 * (m + 1) + 2 + k = (2 * m + 2 + k) + 1 + 1 by omega, hawserlaw06_sameInts.l0, if_pos (by omega), show decide ((i : Int) < (l.length : Int)) = true from decide_eq_true (by omega), hawserlaw06_sameInts.j1, if_pos rfl, if_pos (by omega), if_pos (by omega), if_pos (by omega), if_pos rfl, show wrap64 ((i : Int) + 1) = ((i + 1 : Nat) : Int) from w_succ i (by omega)]
    exact ih (i + 1) k (by omega)
theorem same_ints_f (l : List Int) (hl : l.length ≤ 4096) : hawserlaw06_sameInts.f (2 * l.length + 2) l l = some true := by
  have h := same_ints l hl l.length 0 0 (by omega)
  exact h
theorem outs_len (d : Int) (l : List S27) : (outsF d l).length ≤ 4096 := by
  unfold outsF
  by_cases hd : d = 1 ∨ d = 2 ∨ d = 3
  · rw [if_pos hd]
    exact Nat.le_trans (outB_len _ _) (by rw [bkL_length]; exact (count_in d hd).2.2.2.1)
  · rw [if_neg hd]; simp
def valid (d : Int) (b : Int) : Bool := decide (0 ≤ b ∧ b < (cntN d : Int))
theorem rd_get (bs : List Int) (i : Nat) (h : i < bs.length) : rd bs (i : Int) = bs[i] := by
  unfold rd; simp [List.getD, List.getElem?_eq_getElem h]
def bkI (d : Int) (b : Int) : S27 := bk d b.toNat
theorem prog_loop {d : Int} (hd : d = 1 ∨ d = 2 ∨ d = 3) (bs : List Int) (hl : bs.length ≤ 1048576) : ∀ (m i k : Nat), i + m = bs.length → 7 + m ≤ k →
    span_Ranges.l0 k d ((bs.take i).map (bkI d)) bs (bs.length : Int) (i : Int) = if (bs.drop i).all (valid d) = true then some (mergeF (bs.map (bkI d)), 0) else some ([], 62) := by
  intro m
  induction m with
  | zero =>
    intro i k hi hk
    obtain ⟨k, rfl⟩ : ∃ q, k = q + 1 := ⟨k - 1, by omega⟩
    obtain rfl : i = bs.length := by omega
    rw [span_Ranges.l0, if_neg (by omega), List.take_length, List.drop_length, if_pos (by rfl)]
    unfold span_Normal.f span_merged.f
    rw [if_pos (by simp; omega)]
    rfl
  | succ m ih =>
    intro i k hi hk
    obtain ⟨k, rfl⟩ : ∃ q, k = q + 1 := ⟨k - 1, by omega⟩
    have hlt : i < bs.length := by omega
    obtain ⟨q, rfl⟩ : ∃ q, k = 6 + q := ⟨k - 6, by omega⟩
    rw [span_Ranges.l0, if_pos (by omega), if_pos (by omega), if_pos (by omega), rd_get bs i hlt, List.drop_eq_getElem_cons hlt, List.all_cons]
    by_cases hv : valid d bs[i] = true
    · have hv' := of_decide_eq_true hv
      obtain ⟨b, hb⟩ := Int.eq_ofNat_of_zero_le hv'.1
      have hbN : b < cntN d := by omega
      have ho : span_Of.f (6 + q) d bs[i] = some (mkB (lowL d b), mkB (hiL d b), 0) := by rw [hb]; exact of_at d b hd hbN q
      rw [ho, Option.bind_some, if_pos rfl, if_pos (by simp; omega), show wrap64 ((i : Int) + 1) = ((i + 1 : Nat) : Int) from IntWalk.wrap64_in _ (by omega), hv, Bool.true_and]
      have h2 := ih (i + 1) (6 + q) (by omega) (by omega)
      rw [List.take_add_one, List.getElem?_eq_getElem hlt, List.map_append] at h2
      have e : ((some bs[i]).toList.map (bkI d)) = [(⟨mkB (lowL d b), mkB (hiL d b)⟩ : S27)] := by rw [hb]; rfl
      rw [e] at h2
      exact h2
    · have hv0 : valid d bs[i] = false := by simpa using hv
      have hbad : bs[i] < 0 ∨ (cntN d : Int) ≤ bs[i] := by
        have h := of_decide_eq_false hv0
        omega
      rw [of_bad d bs[i] hd hbad q, Option.bind_some, if_neg (by decide), hv0, Bool.false_and, if_neg (by decide)]
def inD (d : Int) : Prop := d = 1 ∨ d = 2 ∨ d = 3
instance (d : Int) : Decidable (inD d) := by unfold inD; exact inferInstance
/-- The program's Ranges, at any numbers. -/
def rngF (d : Int) (bs : List Int) : List S27 := if inD d ∧ bs.all (valid d) = true then mergeF (bs.map (bkI d)) else []
def rngE (d : Int) (bs : List Int) : Int := if inD d then (if bs.all (valid d) = true then 0 else 62) else 61
theorem ranges_f (d : Int) (bs : List Int) (hl : bs.length ≤ 1048576) : ∃ k, span_Ranges.f k d bs = some (rngF d bs, rngE d bs) := by
  unfold rngF rngE
  by_cases hd : inD d
  · obtain ⟨c1, c2, c3, c4, -⟩ := count_in d hd
    refine ⟨7 + bs.length, ?_⟩
    unfold span_Ranges.f
    rw [show 7 + bs.length = 6 + (1 + bs.length) by omega, count_up d _ c1, Option.bind_some, if_neg (by omega), show 6 + (1 + bs.length) = 7 + bs.length by omega, if_pos hd]
    have h := prog_loop hd bs hl bs.length 0 (7 + bs.length) (by omega) (by omega)
    rw [List.drop_zero] at h
    refine h.trans ?_
    by_cases hv : bs.all (valid d) = true
    · rw [if_pos hv, if_pos ⟨hd, hv⟩, if_pos hv]
    · rw [if_neg hv, if_neg (fun h => hv h.2), if_neg hv]
  · refine ⟨6, ?_⟩
    unfold span_Ranges.f
    rw [(count_out d hd).1, Option.bind_some, if_pos rfl, if_neg (fun h => hd h.1), if_neg hd]
/-- The first i numbers of a list, without repeats. -/
def dedI (L : List Int) : Nat → List Int
  | 0 => []
  | i + 1 => if i = 0 ∨ L.getD i 0 ≠ L.getD (i - 1) 0 then dedI L i ++ [L.getD i 0] else dedI L i
theorem dedI_len (L : List Int) : ∀ i, (dedI L i).length ≤ i
  | 0 => by simp [dedI]
  | i + 1 => by
    have := dedI_len L i
    rw [dedI]
    split
    · simp; omega
    · omega
theorem dedI_ok (L : List Int) (hs : L.Pairwise fun a b => a ≤ b) : ∀ i, i ≤ L.length → (dedI L i).Pairwise (fun a b => a < b) ∧ (∀ x, x ∈ dedI L i ↔ x ∈ L.take i)
  | 0, _ => ⟨List.Pairwise.nil, fun x => by simp [dedI]⟩
  | i + 1, hi => by
    obtain ⟨a, b⟩ := dedI_ok L hs i (by omega)
    have hlt : i < L.length := by omega
    have g1 : L.getD i 0 = L[i] := by simp [List.getD, List.getElem?_eq_getElem hlt]
    have ht : L.take (i + 1) = L.take i ++ [L[i]] := List.take_succ_eq_append_getElem hlt
    have hle : ∀ x ∈ L.take i, x ≤ L[i] := by
      intro x hx
      obtain ⟨j, hj, rfl⟩ := List.mem_iff_getElem.1 hx
      rw [List.getElem_take]
      have hj' : j < i := by rw [List.length_take] at hj; omega
      exact List.pairwise_iff_getElem.1 hs j i (by omega) hlt hj'
    rw [dedI, ht, g1]
    by_cases q : i = 0 ∨ L[i] ≠ L.getD (i - 1) 0
    · rw [if_pos q]
      refine ⟨List.pairwise_append.2 ⟨a, List.pairwise_singleton _ _, fun x hx y hy => ?_⟩, fun x => by rw [List.mem_append, List.mem_append, b x]⟩
      rw [List.mem_singleton] at hy
      subst hy
      have hx' := (b x).1 hx
      have h1 := hle x hx'
      rcases Int.lt_or_eq_of_le h1 with h | h
      · exact h
      · exfalso
        subst h
        rcases q with rfl | q
        · simp at hx'
        · obtain ⟨j, hj, e⟩ := List.mem_iff_getElem.1 hx'
          rw [List.getElem_take] at e
          have hj' : j < i := by rw [List.length_take] at hj; omega
          have hlt2 : i - 1 < L.length := by omega
          have g2 : L.getD (i - 1) 0 = L[i - 1] := by simp [List.getD, List.getElem?_eq_getElem hlt2]
          rw [g2] at q
          have h2 : L[j] ≤ L[i - 1] := by
            rcases Nat.lt_or_eq_of_le (show j ≤ i - 1 by omega) with h | h
            · exact List.pairwise_iff_getElem.1 hs j (i - 1) (by omega) hlt2 h
            · subst h; exact Int.le_refl _
          have h3 : L[i - 1] ≤ L[i] := List.pairwise_iff_getElem.1 hs (i - 1) i hlt2 hlt (by omega)
          omega
    · rw [if_neg q]
      refine ⟨a, fun x => ?_⟩
      rw [List.mem_append, List.mem_singleton, b x]
      constructor
      · exact Or.inl
      · rintro (h | h)
        · exact h
        · subst h
          have hi0 : i ≠ 0 := fun e => q (.inl e)
          have hlt2 : i - 1 < L.length := by omega
          have g2 : L.getD (i - 1) 0 = L[i - 1] := by simp [List.getD, List.getElem?_eq_getElem hlt2]
          have e : L[i] = L[i - 1] := by
            rw [← g2]
            exact Classical.byContradiction fun h => q (.inr h)
          rw [e]
          exact List.mem_iff_getElem.2 ⟨i - 1, by rw [List.length_take]; omega, by rw [List.getElem_take]⟩
theorem rising_eq : ∀ (l m : List Int), l.Pairwise (fun a b => a < b) → m.Pairwise (fun a b => a < b) → (∀ x, x ∈ l ↔ x ∈ m) → l = m
  | [], [], _, _, _ => rfl
  | [], y :: m, _, _, h => absurd ((h y).2 List.mem_cons_self) (by simp)
  | x :: l, [], _, _, h => absurd ((h x).1 List.mem_cons_self) (by simp)
  | x :: l, y :: m, hl, hm, h => by
    have h1 := List.pairwise_cons.1 hl
    have h2 := List.pairwise_cons.1 hm
    have e : x = y := by
      rcases List.mem_cons.1 ((h x).1 List.mem_cons_self) with e | e
      · exact e
      · rcases List.mem_cons.1 ((h y).2 List.mem_cons_self) with e' | e'
        · exact e'.symm
        · have := h1.1 y e'; have := h2.1 x e; omega
    subst e
    rw [rising_eq l m h1.2 h2.2 (fun z => ?_)]
    have hz := h z
    rw [List.mem_cons, List.mem_cons] at hz
    constructor
    · intro hh
      rcases hz.1 (.inr hh) with e | e
      · have := h1.1 z hh; omega
      · exact e
    · intro hh
      rcases hz.2 (.inr hh) with e | e
      · have := h2.1 z hh; omega
      · exact e
theorem has_bk (d : Int) (hd : inD d) (a b : Nat) (ha : a < cntN d) (hb : b < cntN d) (k : T) (h1 : has (pR (bk d a)) k = true) (h2 : has (pR (bk d b)) k = true) : a = b := by
  have one : ∀ a b : Nat, a < cntN d → b < cntN d → a < b → has (pR (bk d a)) k = true → has (pR (bk d b)) k = true → False := by
    intro a b ha hb hab h1 h2
    rw [pR_bk] at h1 h2
    have e1 := (has_iff.1 h1).2
    have e2 := (has_iff.1 h2).1
    have ehi : hiL d a = lowL d (a + 1) := by unfold hiL; rw [if_pos (by omega)]
    simp only at e1 e2
    rw [ehi] at e1
    rcases e1 with e1 | e1
    · rw [low_nil] at e1; omega
    · have e3 : lt (lowL d b) (lowL d (a + 1)) = false := by
        cases e : lt (lowL d b) (lowL d (a + 1)) with
        | false => rfl
        | true => have := (low_lt d b (a + 1) hd hb (by omega)).1 e; omega
      have e4 := lt_le e1 e3
      rw [e4] at e2; cases e2
  rcases Nat.lt_trichotomy a b with h | h | h
  · exact (one a b ha hb h h1 h2).elim
  · exact h
  · exact (one b a hb ha h h2 h1).elim
theorem outs_rng (d : Int) (bs : List Int) (hd : inD d) (hv : bs.all (valid d) = true) : outsF d (rngF d bs) = dedI (sortZ bs) (sortZ bs).length := by
  have hd' : d = 1 ∨ d = 2 ∨ d = 3 := hd
  have hr : rngF d bs = mergeF (bs.map (bkI d)) := by unfold rngF; rw [if_pos ⟨hd, hv⟩]
  have hvb : ∀ b ∈ bs, 0 ≤ b ∧ b < (cntN d : Int) := fun b hb => of_decide_eq_true (List.all_eq_true.1 hv b hb)
  have hh : ∀ k, hasL ((mergeF (rngF d bs)).map pR) k = hasL ((bs.map (bkI d)).map pR) k := fun k => by rw [mergeF_has', hr, mergeF_has']
  have hw : ∀ b, b < cntN d → (wantB (mergeF (rngF d bs)) (b, bk d b) = true ↔ (b : Int) ∈ bs) := by
    intro b hb
    rw [touch_M (mergeF_nf' _) b _ (ok_bk d b hd hb)]
    simp only [hh]
    constructor
    · rintro ⟨k, h1, h2⟩
      obtain ⟨y, hy, h3⟩ := hasL_iff.1 h2
      obtain ⟨x, hx, rfl⟩ := List.mem_map.1 hy
      obtain ⟨c, hc, rfl⟩ := List.mem_map.1 hx
      have hc2 := hvb c hc
      have e := has_bk d hd b c.toNat hb (by omega) k h1 h3
      rw [show (b : Int) = c by omega]
      exact hc
    · intro h
      refine ⟨_, has_from (ok_bk d b hd hb), hasL_iff.2 ⟨pR (bk d b), ?_, has_from (ok_bk d b hd hb)⟩⟩
      exact List.mem_map.2 ⟨bk d b, List.mem_map.2 ⟨(b : Int), h, rfl⟩, rfl⟩
  have hs : (sortZ bs).Pairwise fun a b => a ≤ b := by
    have h := List.pairwise_mergeSort (le := fun x y : Int => decide (x ≤ y)) (fun a b c h1 h2 => by simp only [decide_eq_true_eq] at *; omega) (fun a b => by simp only [Bool.or_eq_true, decide_eq_true_eq]; omega) bs
    exact h.imp (fun h => of_decide_eq_true h)
  have hp : (sortZ bs).Perm bs := List.mergeSort_perm _ _
  obtain ⟨p1, p2⟩ := dedI_ok (sortZ bs) hs _ (Nat.le_refl _)
  refine rising_eq _ _ ?_ p1 (fun x => ?_)
  · unfold outsF outB
    rw [if_pos hd']
    rw [List.pairwise_map]
    refine (List.Pairwise.filter _ ?_)
    unfold bkL
    rw [List.pairwise_map]
    exact (List.pairwise_lt_range).imp (fun h => by simp only; omega)
  · rw [p2, List.take_length, hp.mem_iff]
    unfold outsF outB
    rw [if_pos hd', List.mem_map]
    constructor
    · rintro ⟨y, hy, rfl⟩
      obtain ⟨h1, h2⟩ := List.mem_filter.1 hy
      obtain ⟨b, hb, rfl⟩ := List.mem_map.1 h1
      exact (hw b (List.mem_range.1 hb)).1 h2
    · intro hx
      have h2 := hvb x hx
      refine ⟨(x.toNat, bk d x.toNat), List.mem_filter.2 ⟨List.mem_map.2 ⟨x.toNat, List.mem_range.2 (by omega), rfl⟩, ?_⟩, by simp only; omega⟩
      exact (hw x.toNat (by omega)).2 (by rw [show ((x.toNat : Nat) : Int) = x by omega]; exact hx)
end
end Go.Proofs.YtmjmjjhfficilaaDoor.PSpanBack

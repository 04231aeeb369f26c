/- What is proved: contracts of functions that the law uses, each under the conditions that its theorem states. -/
import Derived.Test.YtmjmjjhfficilaaDoorBkt
import Derived.Test.YtmjmjjhfficilaaDoorTexts
namespace Go.Proofs.YtmjmjjhfficilaaDoor.PSpanTouches
open Go.RowKit Go.Proofs.YtmjmjjhfficilaaDoorW.PrintWords Go.Proofs.YtmjmjjhfficilaaDoorW.PrintLast Go.Proofs.YtmjmjjhfficilaaDoorW.PrintMore
set_option linter.unusedVariables false
set_option linter.unusedSimpArgs false
/-! #### the plain law of Buckets -/
section
open Go.Proofs.YtmjmjjhfficilaaDoor.Texts
def pX (x : S28) : R := (x.f0.toList, x.f1.toList)
theorem rdX (l : List S28) (i : Nat) (h : i < l.length) : rd_T28 l (i : Int) = l[i] := by unfold rd_T28; simp [List.getD, List.getElem?_eq_getElem h]
theorem has_ref (x y : ByteArray) (k : ByteArray) : hawserref06_Has.f x y k = some (has (x.toList, y.toList) k.toList) := by
  unfold hawserref06_Has.f has
  cases a : Op.bytesLess k.toList x.toList with
  | true => simp [a]
  | false =>
    rw [if_neg Bool.false_ne_true]
    by_cases q : y.toList = []
    · rw [if_pos q]; simp [a, q]
    · rw [if_neg q]; simp [a, q]
theorem same_f (got : List S27) (wnt : List S28) (h : got.map pR = wnt.map pX) (hl : got.length ≤ 4294967296) : ∀ (m i k : Nat), i + m = got.length → 2 * m + 2 ≤ k → hawserlaw06_same.l0 k got wnt (i : Int) = some true := by
  have hlen : got.length = wnt.length := by have := congrArg List.length h; simpa using this
  intro m
  induction m with
  | zero =>
    intro i k hi hk
    obtain ⟨k, rfl⟩ : ∃ q, k = q + 2 := ⟨k - 2, by omega⟩
    rw [hawserlaw06_same.l0, if_neg (by omega), hawserlaw06_same.j1, if_neg (by decide), hlen]
    simp
  | succ m ih =>
    intro i k hi hk
    obtain ⟨k, rfl⟩ : ∃ q, k = q + 2 := ⟨k - 2, by omega⟩
    have hlt : i < got.length := by omega
    have hlt2 : i < wnt.length := by omega
    have e := congrArg (fun l => l[i]?) h
    simp only [List.getElem?_map, List.getElem?_eq_getElem hlt, List.getElem?_eq_getElem hlt2, Option.map_some] at e
    injection e with e
    have e0 : got[i].f0.toList = wnt[i].f0.toList := congrArg Prod.fst e
    have e1 : got[i].f1.toList = wnt[i].f1.toList := congrArg Prod.snd e
    rw [hawserlaw06_same.l0, if_pos (by omega), show decide ((i : Int) < (wnt.length : Int)) = true from decide_eq_true (by omega), hawserlaw06_same.j1, if_pos rfl, if_pos (by omega), if_pos (by omega), if_pos (by omega), rdR got i hlt, rdX wnt i hlt2, if_pos e0, if_pos e1, w_up i (by omega)]
    exact ih (i + 1) k (by omega) (by omega)
def conv (x : S27) : S28 := ⟨x.f0, x.f1⟩
theorem plain_l0 (l : List S27) (hl : l.length ≤ 1048576) : ∀ (m i k : Nat), i + m = l.length → hawserlaw06_plain.l0 (m + 1 + k) l ((l.take i).map conv) (i : Int) = some (l.map conv) := by
  intro m
  induction m with
  | zero =>
    intro i k hi
    obtain rfl : i = l.length := by omega
    rw [show 0 + 1 + k = k + 1 by omega, hawserlaw06_plain.l0, if_neg (by omega), List.take_length]
  | succ m ih =>
    intro i k hi
    have hlt : i < l.length := by omega
    have h := ih (i + 1) k (by omega)
    rw [List.take_add_one, List.getElem?_eq_getElem hlt, List.map_append] at h
    rw [show m + 1 + 1 + k = (m + 1 + k) + 1 by omega, hawserlaw06_plain.l0, if_pos (by omega), if_pos (by omega), if_pos (by simp; omega), rdR l i hlt, w_up i (by omega)]
    exact h
theorem conv_p (l : List S27) : (l.map conv).map pX = l.map pR := by rw [List.map_map]; rfl
theorem mergeF_nf' (l : List S27) : NF ((mergeF l).map pR) := mergeF_nf l
theorem mergeF_has' (l : List S27) (k : T) : hasL ((mergeF l).map pR) k = hasL (l.map pR) k := (merged_ok l).2 k
theorem has_max {x r : R} {k : T} (hx : has x k = true) (hr : has r k = true) (h : lt r.1 x.1 = true) : has r x.1 = true ∧ has x x.1 = true := by
  obtain ⟨a1, a2⟩ := has_iff.1 hx
  obtain ⟨b1, b2⟩ := has_iff.1 hr
  exact ⟨has_iff.2 ⟨asymm h, b2.imp id (fun e => le_lt a1 e)⟩, has_iff.2 ⟨irrefl _, a2.imp id (fun e => le_lt a1 e)⟩⟩
theorem has_low {x r : R} {k : T} (hx : has x k = true) (hr : has r k = true) (h : lt r.1 x.1 = false) : has x r.1 = true ∧ has r r.1 = true := by
  obtain ⟨a1, a2⟩ := has_iff.1 hx
  obtain ⟨b1, b2⟩ := has_iff.1 hr
  exact ⟨has_iff.2 ⟨h, a2.imp id (fun e => le_lt b1 e)⟩, has_iff.2 ⟨irrefl _, b2.imp id (fun e => le_lt b1 e)⟩⟩
theorem touch_M {M : List S27} (h : NF (M.map pR)) (b : Nat) (r : S27) (hr : ok (pR r)) : wantB M (b, r) = true ↔ ∃ k, has (pR r) k = true ∧ hasL (M.map pR) k = true := by
  unfold wantB meetsB
  simp only [Bool.and_eq_true, Bool.or_eq_true, decide_eq_true_eq]
  constructor
  · rintro ⟨-, h1 | h1⟩
    · exact ⟨_, has_from hr, h1⟩
    · obtain ⟨x, hx, h2⟩ := List.any_eq_true.1 h1
      exact ⟨_, h2, hasL_iff.2 ⟨pR x, List.mem_map_of_mem hx, has_from (h.1 _ (List.mem_map_of_mem hx))⟩⟩
  · rintro ⟨k, h1, h2⟩
    obtain ⟨y, hy, h3⟩ := hasL_iff.1 h2
    obtain ⟨x, hx, rfl⟩ := List.mem_map.1 hy
    refine ⟨List.length_pos_of_mem hx, ?_⟩
    cases e : lt (pR r).1 (pR x).1 with
    | true => exact .inr (List.any_eq_true.2 ⟨x, hx, (has_max h3 h1 e).1⟩)
    | false => exact .inl (hasL_iff.2 ⟨_, hy, (has_low h3 h1 e).1⟩)
/-- The document's test: the later of the two beginnings lies in both. -/
def tch (r : R) (x : S28) : Bool := has r (if lt r.1 x.f0.toList = true then x.f0.toList else r.1) && has (pX x) (if lt r.1 x.f0.toList = true then x.f0.toList else r.1)
theorem touch_l (l : List S28) (r : R) : l.any (tch r) = true ↔ ∃ k, has r k = true ∧ hasL (l.map pX) k = true := by
  constructor
  · intro h
    obtain ⟨x, hx, h1⟩ := List.any_eq_true.1 h
    unfold tch at h1
    rw [Bool.and_eq_true] at h1
    exact ⟨_, h1.1, hasL_iff.2 ⟨_, List.mem_map_of_mem hx, h1.2⟩⟩
  · rintro ⟨k, h1, h2⟩
    obtain ⟨y, hy, h3⟩ := hasL_iff.1 h2
    obtain ⟨x, hx, rfl⟩ := List.mem_map.1 hy
    refine List.any_eq_true.2 ⟨x, hx, ?_⟩
    unfold tch
    cases e : lt r.1 x.f0.toList with
    | true =>
      rw [if_pos rfl, Bool.and_eq_true]
      exact has_max (x := pX x) h3 h1 e
    | false =>
      rw [if_neg (by decide), Bool.and_eq_true]
      exact (has_low (x := pX x) h3 h1 e).symm
theorem pR_bk (d : Int) (b : Nat) : pR (bk d b) = (lowL d b, hiL d b) := by
  show ((mkB (lowL d b)).toList, (mkB (hiL d b)).toList) = _
  rw [mkB_list, mkB_list]
theorem ok_bk (d : Int) (b : Nat) (hd : d = 1 ∨ d = 2 ∨ d = 3) (hb : b < cntN d) : ok (pR (bk d b)) := by
  rw [pR_bk]
  unfold hiL
  by_cases h : b + 1 < cntN d
  · rw [if_pos h]; exact .inr ((low_lt d b (b + 1) hd hb h).2 (by omega))
  · rw [if_neg h]; exact .inl rfl
theorem ref_l1 (d : Int) (l : List S28) (cnt : Int) (out : List Int) (x8 : Int) (lo hi : ByteArray) (hl : l.length ≤ 4294967296) (ho : out.length < 17592186044416) : ∀ (m i k : Nat) (t : Bool), i + m = l.length →
    hawserref06_Buckets.l1 (2 * m + 1 + k) d l cnt out x8 t (i : Int) lo hi = if (t || (l.drop i).any (tch (lo.toList, hi.toList))) = true then hawserref06_Buckets.l0 k d l cnt (out ++ [x8]) (wrap64 (x8 + 1)) else hawserref06_Buckets.l0 k d l cnt out (wrap64 (x8 + 1)) := by
  intro m
  induction m with
  | zero =>
    intro i k t him
    obtain rfl : i = l.length := by omega
    rw [show 2 * 0 + 1 + k = k + 1 by omega, hawserref06_Buckets.l1, if_neg (by omega), List.drop_length, List.any_nil, Bool.or_false]
    cases t with
    | true => rw [if_pos rfl, if_pos rfl, if_pos ho]
    | false => rw [if_neg (by decide), if_neg (by decide)]
  | succ m ih =>
    intro i k t him
    have hlt : i < l.length := by omega
    have hj : ∀ x13 : ByteArray, hawserref06_Buckets.j2 (2 * m + 1 + k + 1) d l cnt out x8 t (i : Int) x13 lo hi = if ((t || (has (lo.toList, hi.toList) x13.toList && has (pX l[i]) x13.toList)) || (l.drop (i + 1)).any (tch (lo.toList, hi.toList))) = true then hawserref06_Buckets.l0 k d l cnt (out ++ [x8]) (wrap64 (x8 + 1)) else hawserref06_Buckets.l0 k d l cnt out (wrap64 (x8 + 1)) := by
      intro x13
      rw [hawserref06_Buckets.j2, has_ref, Option.bind_some, w_up i (by omega)]
      cases e1 : has (lo.toList, hi.toList) x13.toList with
      | false =>
        rw [if_neg (by decide), ih (i + 1) k t (by omega), Bool.false_and, Bool.or_false]
      | true =>
        rw [if_pos rfl, if_pos (by omega), if_pos (by omega), has_ref, Option.bind_some, rdX l i hlt, Bool.true_and]
        have e3 : has (l[i].f0.toList, l[i].f1.toList) x13.toList = has (pX l[i]) x13.toList := rfl
        rw [e3]
        cases e2 : has (pX l[i]) x13.toList with
        | true => rw [if_pos rfl, ih (i + 1) k true (by omega), Bool.or_true]
        | false => rw [if_neg (by decide), ih (i + 1) k t (by omega), Bool.or_false]
    have hd : l.drop i = l[i] :: l.drop (i + 1) := List.drop_eq_getElem_cons hlt
    rw [show 2 * (m + 1) + 1 + k = (2 * m + 1 + k + 1) + 1 by omega, hawserref06_Buckets.l1, if_pos (by omega), if_pos (by omega), rdX l i hlt, hj, hj, hd, List.any_cons, ← Bool.or_assoc]
    unfold tch
    cases e : Op.bytesLess lo.toList l[i].f0.toList with
    | true =>
      rw [if_pos rfl]
      have e' : lt lo.toList l[i].f0.toList = true := e
      simp only [e', if_true]
    | false =>
      rw [if_neg (by decide)]
      have e' : lt lo.toList l[i].f0.toList = false := e
      simp only [e', Bool.false_eq_true, if_false]
theorem ref_l0 (d : Int) (hd : d = 1 ∨ d = 2 ∨ d = 3) (M : List S27) (l : List S28) (hl : l.length ≤ 4294967296) (hM : NF (M.map pR)) (hh : ∀ k, hasL (M.map pR) k = hasL (l.map pX) k) : ∀ (m b : Nat), b + m = cntN d →
    hawserref06_Buckets.l0 (m * (2 * l.length + 2) + 21) d l (cntN d : Int) (outB M (bkL d b)) (b : Int) = some (outB M (bkL d (cntN d)), 0) := by
  intro m
  induction m with
  | zero =>
    intro b hb
    obtain rfl : b = cntN d := by omega
    rw [show 0 * (2 * l.length + 2) + 21 = 20 + 1 by omega, hawserref06_Buckets.l0, if_neg (by omega)]
  | succ m ih =>
    intro b hb
    have hlt : b < cntN d := by omega
    have hc := (count_in d hd).2.2.2.1
    have hol : (outB M (bkL d b)).length ≤ 4096 := Nat.le_trans (outB_len _ _) (by rw [bkL_length]; omega)
    have e1 : (m + 1) * (2 * l.length + 2) + 21 = (20 + (m * (2 * l.length + 2) + 2 * l.length + 2)) + 1 := by rw [Nat.succ_mul]; omega
    have e2 : 20 + (m * (2 * l.length + 2) + 2 * l.length + 2) = 2 * l.length + 1 + (m * (2 * l.length + 2) + 21) := by omega
    have hw : (l.drop 0).any (tch (lowL d b, hiL d b)) = wantB M (b, bk d b) := by
      rw [List.drop_zero, Bool.eq_iff_iff, touch_l, touch_M hM b _ (ok_bk d b hd hlt), pR_bk]
      simp only [hh]
    have h := ih (b + 1) (by omega)
    rw [bkL_succ, outB_snoc, hw.symm] at h
    rw [e1, hawserref06_Buckets.l0, if_pos (by omega), rof_at d b hd hlt, Option.bind_some, e2]
    have h1 := ref_l1 d l (cntN d : Int) (outB M (bkL d b)) (b : Int) (mkB (lowL d b)) (mkB (hiL d b)) hl (by omega) l.length 0 (m * (2 * l.length + 2) + 21) false (by omega)
    rw [mkB_list, mkB_list, Bool.false_or, w_succ b (by omega)] at h1
    refine h1.trans ?_
    by_cases q : (l.drop 0).any (tch (lowL d b, hiL d b)) = true
    · rw [if_pos q] at h ⊢; exact h
    · rw [if_neg q, List.append_nil] at h
      rw [if_neg q]; exact h
theorem ref_f (d : Int) (l : List S27) (hl : l.length ≤ 1048576) : ∃ k, hawserref06_Buckets.f k d (l.map conv) = some (outsF d l, errF d) := by
  by_cases hd : d = 1 ∨ d = 2 ∨ d = 3
  · have hc := count_in d hd
    have h := ref_l0 d hd (mergeF l) (l.map conv) (by rw [List.length_map]; omega) (mergeF_nf' l) (fun k => by rw [mergeF_has', conv_p]) (cntN d) 0 (by omega)
    refine ⟨cntN d * (2 * (l.map conv).length + 2) + 21, ?_⟩
    unfold hawserref06_Buckets.f outsF errF
    rw [if_pos hd, if_pos hd, show cntN d * (2 * (l.map conv).length + 2) + 21 = 6 + (cntN d * (2 * (l.map conv).length + 2) + 15) by omega, rcount_up d _ hc.2.1, Option.bind_some, if_neg (by omega), show 6 + (cntN d * (2 * (l.map conv).length + 2) + 15) = cntN d * (2 * (l.map conv).length + 2) + 21 by omega]
    exact h
  · refine ⟨6, ?_⟩
    unfold hawserref06_Buckets.f outsF errF
    rw [if_neg hd, if_neg hd, (count_out d hd).2, Option.bind_some, if_pos rfl]
theorem same_ints (l : List Int) (hl : l.length ≤ 4096) : ∀ (m i k : Nat), i + m = l.length → hawserlaw06_sameInts.l0 (2 * m + 2 + k) l l (i : Int) = some true := by
  intro m
  induction m with
  | zero =>
    intro i k hi
    rw [show 2 * 0 + 2 + k = (k + 1) + 1 by omega, hawserlaw06_sameInts.l0, if_neg (by omega), hawserlaw06_sameInts.j1, if_neg (by decide)]
    simp
  | succ m ih =>
    intro i k hi
    rw [show 2 * (m + 1) + 2 + k = (2 * m + 2 + k) + 1 + 1 by omega, hawserlaw06_sameInts.l0, if_pos (by omega), show decide ((i : Int) < (l.length : Int)) = true from decide_eq_true (by omega), hawserlaw06_sameInts.j1, if_pos rfl, if_pos (by omega), if_pos (by omega), if_pos (by omega), if_pos rfl, show wrap64 ((i : Int) + 1) = ((i + 1 : Nat) : Int) from w_succ i (by omega)]
    exact ih (i + 1) k (by omega)
theorem same_ints_f (l : List Int) (hl : l.length ≤ 4096) : hawserlaw06_sameInts.f (2 * l.length + 2) l l = some true := by
  have h := same_ints l hl l.length 0 0 (by omega)
  exact h
theorem outs_len (d : Int) (l : List S27) : (outsF d l).length ≤ 4096 := by
  unfold outsF
  by_cases hd : d = 1 ∨ d = 2 ∨ d = 3
  · rw [if_pos hd]
    exact Nat.le_trans (outB_len _ _) (by rw [bkL_length]; exact (count_in d hd).2.2.2.1)
  · rw [if_neg hd]; simp
def all0 : S27 := ⟨⟨#[]⟩, ⟨#[]⟩⟩
theorem whole_16 : (outsF 1 [all0]).length = 16 := by
  unfold outsF
  rw [if_pos (by decide)]
  have h : ∀ x ∈ bkL 1 (cntN 1), wantB (mergeF [all0]) x = true := by
    intro x hx
    obtain ⟨b, hb, rfl⟩ := List.mem_map.1 hx
    have hb' : b < cntN 1 := List.mem_range.1 hb
    refine (touch_M (mergeF_nf' _) b _ (ok_bk 1 b (.inl rfl) hb')).2 ⟨_, has_from (ok_bk 1 b (.inl rfl) hb'), ?_⟩
    rw [mergeF_has']
    have e0 : pR all0 = ([], []) := by
      show ((⟨#[]⟩ : ByteArray).toList, (⟨#[]⟩ : ByteArray).toList) = _
      rw [ByteArray.toList_eq]
    refine hasL_iff.2 ⟨pR all0, List.mem_map_of_mem (List.mem_singleton.2 rfl), ?_⟩
    rw [e0]
    exact has_iff.2 ⟨lt_nil _, .inl rfl⟩
  unfold outB
  rw [List.length_map, List.filter_eq_self.2 h, bkL_length]
  rfl
end
/-! #### the law's own functions -/
/-- The mark. -/
def sM : ByteArray := ⟨#[109, 97, 114, 107]⟩
def sK : ByteArray := ⟨#[107, 114, 97, 109]⟩
def mk : S27 := ⟨sM, sK⟩
def Mark (w : World) : Prop := w.cell? ⟨0, 0, none⟩ = some (.string sM) ∧ w.cell? ⟨0, 1, none⟩ = some (.string sK)
theorem Mark.below {w w' : World} (h : Mark w) (hb : Below w.heap.size w w') : Mark w' :=
  ⟨(hb.cell (show 0 < w.heap.size from World.block_lt_of_cell? w _ h.1)).trans h.1, (hb.cell (show 0 < w.heap.size from World.block_lt_of_cell? w _ h.1)).trans h.2⟩
theorem rep_succ (l : List S27) (i : Nat) : l ++ List.replicate (i + 1) mk = l ++ List.replicate i mk ++ [mk] := by
  rw [List.replicate_succ', List.append_assoc]
set_option maxRecDepth 100000 in
set_option maxHeartbeats 8000000 in
theorem roomy (w : World) (A : Option Addr) (c : Nat) (l : List S27) (hr : Kd.C k27 w A l.length l) (hc : l.length ≤ c) (hl : l.length ≤ 1048576) (hm : Mark w) :
    Calls Tryd.prog 12 #[.slice A l.length c] w fun e w' => ∃ A' c', e = .returned (.slice A' l.length c') ∧ l.length + 12 ≤ c' ∧ Kd.R k27 27 w' w.heap.size (fun _ => True) (.slice A' (l.length + 12) c') (l ++ List.replicate 12 mk) ∧ Below w.heap.size w w' := by
  have R := Lib.hid (And.intro hr (And.intro hl hm))
  obtain ⟨n, hn⟩ : ∃ n, RowKit.Hid (n = l.length) := ⟨_, Lib.hid rfl⟩
  have hnl : n ≤ 1048576 := by rw [hn.out]; exact hl
  have hrn : RowKit.Hid (Kd.C k27 w A n l) := Lib.hid (by rw [hn.out]; exact hr)
  rw [← hn.out] at hc ⊢
  clear hr hl hm
  go_enter Tryd.func12, Tryd.ntmps12
  go_upto_region 3 with (first
    | (at_builtin; refine Kd.R_append_rows k27 (Rr := k27.K w) (w0 := w) w.heap.size rfl (.const (.slice none 0 0)) (.tmp 5) 35 27 (.agg #[.string ⟨#[]⟩, .string ⟨#[]⟩]) 32 rfl Tryd.underlying35 infoR rfl (by decide) (by decide) (.slice none 0 0) [] l A n c (fun _ => True) (fun _ => False) rfl rfl (Kd.R_nil _ _ _ _ _) hrn.out (fun x cs h => by rw [k27_open h]; exact k27_mkM _ _ _ x) (fun _ h => h.elim) (fun _ _ => trivial) (Below.refl _ _) (Nat.le_refl _) (by have := hn.out; simp; omega) ?_; intro v1 w1 hR1 hb1 hg1 hat1))
  rw [List.nil_append] at hR1
  have F := Lib.hid (And.intro hR1 hb1)
  clear hR1 hb1 hg1 hat1
  go_loopw [3, 4] (fun v iv wr => ∃ i : Nat, i ≤ 12 ∧ iv = .int .i64 i ∧ Kd.R k27 27 wr w.heap.size (fun _ => True) v (l ++ List.replicate i mk) ∧ Below w.heap.size w wr) (fun _ iv _ => 12 - (intOf iv).toNat)
  case atStart => exact ⟨0, by omega, rfl, by simpa using F.out.1, F.out.2⟩
  case round =>
    obtain ⟨i, hi, rfl, hR, hb⟩ := hrel
    by_cases hlt : i < 12
    · have u12 : (i : Int) < 12 := by omega
      obtain ⟨m0, m1⟩ := R.out.2.2.below hb
      have hf0 : wr.heap.size ≥ w.heap.size := hb.size
      obtain ⟨rr, hrr⟩ : ∃ rr, RowKit.Hid (rr = l ++ List.replicate i mk) := ⟨_, Lib.hid rfl⟩
      have hrl : RowKit.Hid (rr.length ≤ 1048588) := Lib.hid (by rw [hrr.out, List.length_append, List.length_replicate]; have := R.out.2.1; omega)
      rw [← hrr.out] at hR
      obtain ⟨Av, cv, rfl, hcv, -⟩ := Kd.R_reads hR
      have H := Lib.hid (And.intro hR hb)
      obtain ⟨q, hq⟩ : ∃ q, RowKit.Hid (q = rr.length) := ⟨_, Lib.hid rfl⟩
      rw [← hq.out]
      clear hR hb hcv
      go_wp2_with (first
        | (at_builtin; refine Kd.R_append k27 (w0 := w) w.heap.size rfl (.tmp 11) (.tmp 13) 35 27 (.agg #[.string ⟨#[]⟩, .string ⟨#[]⟩]) 32 rfl Tryd.underlying35 infoR rfl (by decide) (by decide) (.slice Av q cv) rr mk [.string sM, .string sK] (fun _ => True) (fun _ => False) rfl rfl (k27_mkM _ _ _ mk) (fun _ h => h.elim) (fun _ _ => trivial) (by rw [hq.out]; exact H.out.1) H.out.2 hf0 (by have := hrl.out; omega) ?_; intro v6 w6 hown6 hb6 hg6 hat6))
      refine ⟨⟨i + 1, by omega, by go_num, ?_, hb6⟩, by simp [intOf]; omega⟩
      rw [rep_succ, ← hrr.out]; exact hown6
    · obtain rfl : i = 12 := by omega
      obtain ⟨Av, cv, rfl, hcv, -⟩ := Kd.R_reads hR
      have e12 : (l ++ List.replicate 12 mk).length = n + 12 := by rw [List.length_append, List.length_replicate, hn.out]
      rw [e12] at hR hcv ⊢
      have q0 : (0 : Int) ≤ (n : Int) := by omega
      have q1 : (n : Int) ≤ (cv : Int) := by omega
      have H := Lib.hid (And.intro hR (And.intro hb hcv))
      clear hR hb
      go_wp2
      go_ret
      exact ⟨_, _, rfl, H.out.2.2, H.out.1, H.out.2.1⟩
theorem neq_mk (W : World) : (binOp .neq 27 (.agg #[.string sM, .string sK]) (.agg #[.string sM, .string sK])).run Tryd.prog W = .ok (.bool false) W := by
  kernel_rfl
theorem equal_refl (l : List S27) (hl : l.length ≤ 1048576) : hawserlaw06_equal.f (2 * l.length + 2) l l = some true := by
  have h1 := plain_l0 l hl l.length 0 (l.length + 1) (by omega)
  have h2 := same_f l (l.map conv) (conv_p l).symm (by omega) l.length 0 (2 * l.length + 2) (by omega) (Nat.le_refl _)
  unfold hawserlaw06_equal.f hawserlaw06_plain.f hawserlaw06_same.f
  rw [show 2 * l.length + 2 = l.length + 1 + (l.length + 1) by omega]
  rw [show 2 * l.length + 2 = l.length + 1 + (l.length + 1) by omega] at h2
  have h3 : hawserlaw06_plain.l0 (l.length + 1 + (l.length + 1)) l [] 0 = some (l.map conv) := h1
  have h4 : hawserlaw06_same.l0 (l.length + 1 + (l.length + 1)) l (l.map conv) 0 = some true := h2
  rw [h3, Option.bind_some, h4, Option.bind_some]
set_option maxRecDepth 100000 in
set_option maxHeartbeats 8000000 in
theorem kept (w : World) (A' A : Option Addr) (c' c : Nat) (l : List S27) (hr' : Kd.C k27 w A' (l.length + 12) (l ++ List.replicate 12 mk)) (hc' : l.length + 12 ≤ c') (hr : Kd.C k27 w A l.length l) (hc : l.length ≤ c) (hl : l.length ≤ 1048576) (hm : Mark w) :
    Calls Tryd.prog 18 #[.slice A' l.length c', .slice A l.length c] w fun e w' => e = .returned (.bool true) ∧ Below w.heap.size w w' := by
  have hC0 : Kd.C k27 w A' l.length l := by
    have hz : Kd.C k27 w A' (l ++ List.replicate 12 mk).length (l ++ List.replicate 12 mk) := by rw [List.length_append, List.length_replicate]; exact hr'
    have h := Kd.C_take hz (m := l.length) (by rw [List.length_append]; omega)
    rw [List.take_left' rfl] at h
    exact h
  have heq := hawserlaw06_equal.calls (2 * l.length + 2) A' c' l A c l true w hC0 (by omega) hr hc (equal_refl l hl)
  have R := Lib.hid (And.intro hr' (And.intro hl hm))
  obtain ⟨n, hn⟩ : ∃ n, RowKit.Hid (n = l.length) := ⟨_, Lib.hid rfl⟩
  have hnl : n ≤ 1048576 := by rw [hn.out]; exact hl
  have hmx := Kd.C_max hr'
  rw [← hn.out] at heq hc' hmx ⊢
  clear hr' hr hc hl hm hC0
  have p0 : IntKind.i64.wrap ((n : Int) + 12) = ((n + 12 : Nat) : Int) := by rw [IntWalk.i64_in _ (by omega)]; omega
  have p1 : wrap64 ((n : Int) + 12) = ((n + 12 : Nat) : Int) := by rw [IntWalk.wrap64_in _ (by omega)]; omega
  have q0 : (0 : Int) ≤ ((n + 12 : Nat) : Int) := by omega
  have q1 : ((n + 12 : Nat) : Int) ≤ (c' : Int) := by omega
  go_enter Tryd.func18, Tryd.ntmps18
  go_upto_region 5 with (first
    | (go_at_call 31; refine heq.mono ?_; rintro e w2 ⟨rfl, hb2⟩))
  go_loopw [6] (fun v wr => ∃ i : Nat, i ≤ 12 ∧ v = .int .i64 i ∧ Below w.heap.size w wr) (fun v _ => 12 - (intOf v).toNat)
  case atStart => exact ⟨0, by omega, rfl, by first | exact hb2 | exact Below.refl _ _⟩
  case round =>
    obtain ⟨i, hi, rfl, hb⟩ := hrel
    by_cases hlt : i < 12
    · have u12 : (i : Int) < 12 := by omega
      obtain ⟨m0, m1⟩ := R.out.2.2.below hb
      have r0 : IntKind.i64.wrap ((n : Int) + (i : Int)) = ((n + i : Nat) : Int) := by rw [IntWalk.i64_in _ (by omega)]; omega
      have r1 : wrap64 ((n : Int) + (i : Int)) = ((n + i : Nat) : Int) := by rw [IntWalk.wrap64_in _ (by omega)]; omega
      have l16 : (0 : Int) ≤ ((n + i : Nat) : Int) := by omega
      have u16 : ((n + i : Nat) : Int) < ((n + 12 : Nat) : Int) := by omega
      obtain ⟨ad, eA, x0, x1⟩ := at_T27 (Kd.C_below R.out.1 hb) ((n + i : Nat) : Int) l16 (by rw [← hn.out]; omega)
      have er : rd_T27 (l ++ List.replicate 12 mk) ((n + i : Nat) : Int) = mk := by
        rw [rdR _ (n + i) (by rw [List.length_append, List.length_replicate, ← hn.out]; omega)]
        rw [List.getElem_append_right (by rw [← hn.out]; omega)]
        exact List.getElem_replicate ..
      rw [er] at x0 x1
      simp only [Int.toNat_natCast] at x0 x1
      have x0' : w.heap.size = w.heap.size := rfl
      replace x0 : wr.cell? (ad.add ((n + i) * 2)) = some (.string sM) := x0
      replace x1 : wr.cell? ⟨(ad.add ((n + i) * 2)).block, (ad.add ((n + i) * 2)).off + 1, none⟩ = some (.string sK) := x1
      have HB := Lib.hid hb
      have hne := neq_mk
      replace l16 := eq_true l16
      replace u16 := eq_true u16
      cases eA
      clear hb er x0'
      go_upto_region 7 with (fail)
      repeat (go_quiet (fail); try go_wp2)
      exact ⟨⟨i + 1, by omega, by go_num, by repeat (first | exact HB.out | apply pw_below_drewN)⟩, by simp [intOf]; omega⟩
    · obtain rfl : i = 12 := by omega
      go_wp2
      go_ret
      exact ⟨rfl, hb⟩
theorem bt {w w1 w2 : World} (h1 : Below w.heap.size w w1) (h2 : Below w1.heap.size w1 w2) : Below w.heap.size w w2 := h1.trans (h2.mono h1.size)
theorem drawn_below {w w' : World} (h : Drawn0 w w') : Below w.heap.size w w' := by
  obtain ⟨n, rfl⟩ := h
  exact pw_below_drewN (Below.refl _ _) n
theorem lit_C (u : World) : Kd.C k27 (u.alloc (.cells #[.string ⟨#[]⟩, .string ⟨#[]⟩] 27)) (some ⟨u.heap.size, 0, none⟩) 1 [all0] := by
  have g := heap_alloc_new u (.cells #[.string ⟨#[]⟩, .string ⟨#[]⟩] 27 (0, 0))
  refine ⟨rfl, by decide, fun _ => ⟨_, rfl, fun j p hj => ?_⟩⟩
  cases j with
  | succ j => simp at hj
  | zero =>
    obtain rfl : all0 = p := by simpa using hj
    refine ⟨[.string all0.f0, .string all0.f1], rfl, k27_mk _ _, fun i x hx => ?_⟩
    match i, hx with
    | 0, hx => 
      obtain rfl : Value.string all0.f0 = x := by simpa using hx
      exact cell_of_row _ _ 0 _ _ _ g
    | 1, hx =>
      obtain rfl : Value.string all0.f1 = x := by simpa using hx
      exact cell_of_row _ _ 1 _ _ _ g
    | _ + 2, hx => simp at hx
set_option maxRecDepth 100000 in
set_option maxHeartbeats 8000000 in
theorem touches_walk (w : World) (d : Int) (A : Option Addr) (c : Nat) (l : List S27) (hra : Kd.C k27 w A l.length l) (hca : l.length ≤ c) (la : l.length ≤ 1048576) (hm : Mark w) :
    Calls Tryd.prog 4 #[.int .i64 d, .slice A l.length c] w fun e w' => e = .returned (.bool true) ∧ Below w.heap.size w w' := by
  obtain ⟨k1, e1⟩ := ref_f d l la
  have e2 : hawserlaw06_plain.f (l.length + 1) l = some (l.map conv) := plain_l0 l la l.length 0 0 (by omega)
  have lo := outs_len d l
  have e3 := same_ints_f (outsF d l) lo
  have w16 := whole_16
  obtain ⟨p, hp⟩ : ∃ p, RowKit.Hid (p = l.map conv) := ⟨_, Lib.hid rfl⟩
  rw [← hp.out] at e1 e2
  have buck := fun W A c hC hc => buckets_any W A c d l hC hc (by omega)
  have lw := outs_len 1 [all0]
  obtain ⟨og, hog⟩ : ∃ og, RowKit.Hid (og = outsF d l) := ⟨_, Lib.hid rfl⟩
  obtain ⟨er, her⟩ : ∃ er, RowKit.Hid (er = errF d) := ⟨_, Lib.hid rfl⟩
  have buckW : ∀ u : World, Calls Tryd.prog 13 #[.int .i64 1, .slice (some ⟨u.heap.size, 0, none⟩) 1 1] (u.alloc (.cells #[.string ⟨#[]⟩, .string ⟨#[]⟩] 27)) fun e w' => ∃ v, e = .returned (.tuple #[v, .int .i64 0]) ∧ Kd.R (Kd.int .i64) 3 w' u.heap.size (fun _ => True) v (outsF 1 [all0]) ∧ Below u.heap.size u w' := by
    intro u
    refine (buckets_any _ (some ⟨u.heap.size, 0, none⟩) 1 1 [all0] (lit_C u) (by decide) (by decide)).mono ?_
    rintro e w' ⟨v, rfl, hR, hb⟩
    exact ⟨v, rfl, Kd.R_lower hR (by rw [World.size_alloc]; omega), ((Below.refl _ u).alloc (Nat.le_refl _) _).trans (hb.mono (by rw [World.size_alloc]; omega))⟩
  obtain ⟨ow, how⟩ : ∃ ow, RowKit.Hid (ow = outsF 1 [all0]) := ⟨_, Lib.hid rfl⟩
  rw [← hog.out] at e1 e3 buck lo
  rw [← her.out] at e1 buck
  rw [← how.out] at buckW w16 lw
  have room1 : ∀ W, Kd.C k27 W A l.length l → Mark W → Calls Tryd.prog 12 #[.slice A l.length c] W fun e w' => ∃ A' c', e = .returned (.slice A' l.length c') ∧ l.length + 12 ≤ c' ∧ Kd.C k27 w' A' (l.length + 12) (l ++ List.replicate 12 mk) ∧ Kd.C k27 w' A' l.length l ∧ Below W.heap.size W w' := by
    intro W hC hM
    refine (roomy W A c l hC hca la hM).mono ?_
    rintro e w' ⟨A', c', rfl, h12, hR, hb⟩
    have hC1 : Kd.C k27 w' A' (l.length + 12) (l ++ List.replicate 12 mk) := by
      have h := (Kd.R_reads' hR).2.2
      rw [List.length_append, List.length_replicate] at h
      exact h
    have hC0 : Kd.C k27 w' A' l.length l := by
      have hz : Kd.C k27 w' A' (l ++ List.replicate 12 mk).length (l ++ List.replicate 12 mk) := by rw [List.length_append, List.length_replicate]; exact hC1
      have h := Kd.C_take hz (m := l.length) (by rw [List.length_append]; omega)
      rw [List.take_left' rfl] at h
      exact h
    exact ⟨A', c', rfl, h12, hC1, hC0, hb⟩
  have plain1 := fun W A c h hc => hawserlaw06_plain.calls (l.length + 1) A c l p W h hc e2
  have rbuck := fun W A c h hc => hawserref06_Buckets.calls k1 d A c p og er W h hc e1
  have same1 := fun W A c h hc A' c' h' hc' => (hawserlaw06_sameInts.calls (2 * og.length + 2) A c og A' c' og true W h hc h' hc' e3).mono (fun _ _ (h : _ ∧ _) => And.intro h.1 (drawn_below h.2))
  have num1 := fun W => (hawserlaw06_num.calls er er W rfl).mono (fun _ _ (h : _ ∧ _) => And.intro h.1 (drawn_below h.2))
  have num0 := fun W => (hawserlaw06_num.calls 0 0 W rfl).mono (fun _ _ (h : _ ∧ _) => And.intro h.1 (drawn_below h.2))
  have kept1 := fun W A1 c1 h12 hc12 h hM => kept W A1 A c1 c l h12 hc12 h hca la hM
  have H := Lib.hid (And.intro hra hm)
  have hc := Lib.hid hca
  have t16 : ((ow.length : Int) == 16) = true := beq_iff_eq.2 (by omega)
  have terr : (er == er) = true := beq_self_eq_true er
  have LL := Lib.hid (And.intro la (And.intro lo lw))
  clear e1 e2 e3 hra hm la hca w16 lo lw
  go_enter Tryd.func4, Tryd.ntmps4
  go_wp2_with (first
    | (go_at_call 12; (with_reducible refine (room1 w H.out.1 H.out.2).mono ?_); rintro e w1 ⟨A1, c1, rfl, hc1, hC1, hD1, hb1⟩; have F1 := Lib.hid (And.intro hc1 (And.intro hC1 hD1)); clear hc1 hC1 hD1; have b1 := Lib.hid hb1; clear hb1)
    | (go_at_call 13; (with_reducible refine (buck w1 A1 c1 F1.out.2.2 (by have := F1.out.1; omega)).mono ?_); rintro e w2 ⟨v2, rfl, hR2, hb2⟩; obtain ⟨A2, c2, rfl, hc2, hC2⟩ := Kd.R_reads hR2; have F2 := Lib.hid (And.intro hC2 (And.intro hc2 hR2)); clear hR2 hc2 hC2; have b2 := Lib.hid hb2; clear hb2)
    | (go_at_call 15; (with_reducible refine (plain1 w2 A c (Kd.C_below H.out.1 (bt b1.out b2.out)) hc.out).mono ?_); rintro e w3 ⟨v3, rfl, hR3, hb3⟩; obtain ⟨A3, c3, rfl, hc3, hC3⟩ := Kd.R_reads hR3; have F3 := Lib.hid (And.intro hC3 (And.intro hc3 hR3)); clear hR3 hc3 hC3; have b3 := Lib.hid hb3; clear hb3)
    | (go_at_call 14; (with_reducible refine (rbuck w3 A3 c3 F3.out.1 F3.out.2.1).mono ?_); rintro e w4 ⟨v4, rfl, hR4, hb4⟩; obtain ⟨A4, c4, rfl, hc4, hC4⟩ := Kd.R_reads hR4; have F4 := Lib.hid (And.intro hC4 (And.intro hc4 hR4)); clear hR4 hc4 hC4; have b4 := Lib.hid hb4; clear hb4)
    | (go_at_call 13; (with_reducible refine (buckW _).mono ?_); rintro e w5 ⟨v5, rfl, hR5, hb5⟩; obtain ⟨A5, c5, rfl, hc5, hC5⟩ := Kd.R_reads hR5; have F5 := Lib.hid (And.intro hC5 (And.intro hc5 hR5)); clear hR5 hc5 hC5; have b5 := Lib.hid hb5; clear hb5)
    | (go_at_call 16; (with_reducible refine (same1 w5 A2 c2 (Kd.C_below F2.out.1 (bt (bt b3.out b4.out) b5.out)) F2.out.2.1 A4 c4 (Kd.C_below F4.out.1 b5.out) F4.out.2.1).mono ?_); rintro e w6 ⟨rfl, hb6⟩; have b6 := Lib.hid hb6; clear hb6)
    | (go_at_call 17; (with_reducible refine (num1 w6).mono ?_); rintro e w7 ⟨rfl, hb7⟩; have b7 := Lib.hid hb7; clear hb7)
    | (go_at_call 18; (with_reducible refine (kept1 w7 A1 c1 (Kd.C_below F1.out.2.1 (bt (bt (bt (bt (bt b2.out b3.out) b4.out) b5.out) b6.out) b7.out)) F1.out.1 (Kd.C_below H.out.1 (bt (bt (bt (bt (bt (bt b1.out b2.out) b3.out) b4.out) b5.out) b6.out) b7.out)) (Mark.below H.out.2 (bt (bt (bt (bt (bt (bt b1.out b2.out) b3.out) b4.out) b5.out) b6.out) b7.out))).mono ?_); rintro e w8 ⟨rfl, hb8⟩; have b8 := Lib.hid hb8; clear hb8)
    | (go_at_call 17; (with_reducible refine (num0 w8).mono ?_); rintro e w9 ⟨rfl, hb9⟩; have b9 := Lib.hid hb9; clear hb9))
  go_ret
  exact ⟨rfl, (bt (bt (bt (bt (bt (bt (bt (bt b1.out b2.out) b3.out) b4.out) b5.out) b6.out) b7.out) b8.out) b9.out)⟩
end Go.Proofs.YtmjmjjhfficilaaDoor.PSpanTouches

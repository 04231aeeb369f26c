/- What is proved: what the program's Normal answers at the ranges of some buckets; the conditions stand in the theorems. -/
import Derived.Test.YtjjdjanhghahbaaDoorRangesLow
namespace Go.Proofs.YtjjdjanhghahbaaDoor.RangesPure
open Go.RowKit Go.Proofs.YtjjdjanhghahbaaDoor.PSpanWhole Go.Proofs.YtjjdjanhghahbaaDoor.RangesLow Go.Proofs.YtjjdjanhghahbaaDoor.Runs Go.Proofs.YtjjdjanhghahbaaDoorW.PrintWords Go.Proofs.YtjjdjanhghahbaaDoorW.PrintLast
set_option linter.unusedVariables false
set_option linter.unusedSimpArgs false
def rng (d : Int) (b : Nat) : S31 := ⟨mkB (lowL d b), mkB (hiL d b)⟩
def endL (d : Int) (e : Nat) : List UInt8 := if e < cntN d then lowL d e else []
def img (d : Int) (x : Nat × Nat) : S31 := ⟨mkB (lowL d x.1), mkB (endL d x.2)⟩
def valid (d : Int) (b : Int) : Bool := decide (0 ≤ b ∧ b < (cntN d : Int))
theorem rd_get (bs : List Int) (i : Nat) (h : i < bs.length) : rd bs (i : Int) = bs[i] := by
  unfold rd; simp [List.getD, List.getElem?_eq_getElem h]
theorem w_step (i : Nat) (h : i ≤ 4294967296) : wrap64 ((i : Int) + 1) = ((i + 1 : Nat) : Int) := IntWalk.wrap64_in _ (by omega)
section
variable {d : Int} (hd : d = 1 ∨ d = 2 ∨ d = 3)
include hd
theorem step_img (out : List (Nat × Nat)) (c : Nat) (hc : c < cntN d) (ho : ∀ x ∈ out, x.1 < x.2 ∧ x.2 ≤ cntN d) : stepR (out.map (img d)) (rng d c) = (stepN out c).map (img d) := by
  rcases List.eq_nil_or_concat out with rfl | ⟨o, x, h⟩
  · rfl
  · rw [List.concat_eq_append] at h
    subst h
    obtain ⟨s, e⟩ := x
    have hse := ho (s, e) (by simp)
    simp only at hse
    rw [List.map_append, List.map_cons, List.map_nil, step_snoc, stepN_snoc]
    show (if (mkB (endL d e)).toList = [] then _ else if lessB (mkB (endL d e)).toList (mkB (lowL d c)).toList = true then _ else if (mkB (hiL d c)).toList = [] then _ else if lessB (mkB (endL d e)).toList (mkB (hiL d c)).toList = true then _ else _) = _
    rw [mkB_list, mkB_list, mkB_list]
    by_cases he : e < cntN d
    · have e1 : endL d e = lowL d e := by unfold endL; rw [if_pos he]
      have e2 : ¬ lowL d e = [] := fun h => by rw [low_nil] at h; omega
      rw [e1, if_neg e2]
      by_cases h1 : e < c
      · rw [if_pos ((low_lt d e c hd he hc).2 h1), if_pos h1]
        simp [img, rng, endL, hiL, e1, he]
      · rw [if_neg (fun h => h1 ((low_lt d e c hd he hc).1 h)), if_neg h1]
        by_cases h2 : c + 1 < cntN d
        · have e3 : hiL d c = lowL d (c + 1) := by unfold hiL; rw [if_pos h2]
          have e4 : ¬ lowL d (c + 1) = [] := fun h => by rw [low_nil] at h; omega
          rw [e3, if_neg e4]
          by_cases h3 : e < c + 1
          · rw [if_pos ((low_lt d e (c + 1) hd he h2).2 h3), show max e (c + 1) = c + 1 by omega]
            simp [img, rng, endL, h2, e3]
          · rw [if_neg (fun h => h3 ((low_lt d e (c + 1) hd he h2).1 h)), show max e (c + 1) = e by omega]
            simp [img, rng, endL, he]
        · have e3 : hiL d c = [] := by unfold hiL; rw [if_neg h2]
          rw [e3, if_pos rfl, show max e (c + 1) = c + 1 by omega]
          simp [img, rng, endL, h2, e3]
    · have e1 : endL d e = [] := by unfold endL; rw [if_neg he]
      rw [e1, if_pos rfl, if_neg (by omega), show max e (c + 1) = e by omega]
      simp [img, e1]
omit hd in
theorem stepN_inv (N : Nat) (out : List (Nat × Nat)) (c : Nat) (hc : c < N) (ho : ∀ x ∈ out, x.1 < x.2 ∧ x.2 ≤ N) : ∀ x ∈ stepN out c, x.1 < x.2 ∧ x.2 ≤ N := by
  intro x hx
  rcases List.eq_nil_or_concat out with rfl | ⟨o, y, h⟩
  · rw [stepN_nil] at hx
    simp at hx
    subst hx
    simp; omega
  · rw [List.concat_eq_append] at h
    subst h
    obtain ⟨s, e⟩ := y
    have hse := ho (s, e) (by simp)
    simp only at hse
    rw [stepN_snoc] at hx
    split at hx
    · rcases List.mem_append.1 hx with hx | hx
      · exact ho x hx
      · simp at hx; subst hx; simp; omega
    · rcases List.mem_append.1 hx with hx | hx
      · exact ho x (List.mem_append_left _ hx)
      · simp at hx; subst hx; simp; omega
theorem fold_img : ∀ (cs : List Nat) (out : List (Nat × Nat)), (∀ c ∈ cs, c < cntN d) → (∀ x ∈ out, x.1 < x.2 ∧ x.2 ≤ cntN d) → (cs.map (rng d)).foldl stepR (out.map (img d)) = (cs.foldl stepN out).map (img d)
  | [], _, _, _ => rfl
  | c :: cs, out, hc, ho => by
    rw [List.map_cons, List.foldl_cons, List.foldl_cons, step_img hd out c (hc c (by simp)) ho]
    exact fold_img cs _ (fun x hx => hc x (by simp [hx])) (stepN_inv _ out c (hc c (by simp)) ho)
theorem rng_inj (a b : Nat) (ha : a < cntN d) (hb : b < cntN d) (h : rng d a = rng d b) : a = b := by
  have h1 := congrArg (fun x : S31 => x.f0.toList) h
  simp only [rng, mkB_list] at h1
  rcases Nat.lt_trichotomy a b with h2 | h2 | h2
  · have := (low_lt d a b hd ha hb).2 h2
    rw [h1, lessB_irrefl] at this; cases this
  · exact h2
  · have := (low_lt d b a hd hb ha).2 h2
    rw [h1, lessB_irrefl] at this; cases this
open Classical in
theorem sort_rng (bs : List Nat) (hb : ∀ b ∈ bs, b < cntN d) : ∃ cs : List Nat, cs.Perm bs ∧ cs.Pairwise (· ≤ ·) ∧ sortR (bs.map (rng d)) = cs.map (rng d) := by
  obtain ⟨hp, hs⟩ := sortR_both (bs.map (rng d))
  have hmem : ∀ s ∈ sortR (bs.map (rng d)), ∃ b, b < cntN d ∧ rng d b = s := by
    intro s h
    obtain ⟨b, h1, h2⟩ := List.mem_map.1 (hp.mem_iff.1 h)
    exact ⟨b, hb b h1, h2⟩
  obtain ⟨dec, hdec⟩ : ∃ dec : S31 → Nat, ∀ b, b < cntN d → dec (rng d b) = b := by
    refine ⟨fun s => if h : ∃ b, b < cntN d ∧ rng d b = s then Classical.choose h else 0, fun b hb => ?_⟩
    have h : ∃ b', b' < cntN d ∧ rng d b' = rng d b := ⟨b, hb, rfl⟩
    show (if h : ∃ b', b' < cntN d ∧ rng d b' = rng d b then Classical.choose h else 0) = b
    rw [dif_pos h]
    have h2 := Classical.choose_spec h
    exact rng_inj hd _ _ h2.1 hb h2.2
  have hback : ((sortR (bs.map (rng d))).map dec).map (rng d) = sortR (bs.map (rng d)) := by
    rw [List.map_map]
    conv => rhs; rw [← List.map_id (sortR (bs.map (rng d)))]
    refine List.map_congr_left (fun s hs => ?_)
    obtain ⟨b, h1, rfl⟩ := hmem s hs
    show rng d (dec (rng d b)) = rng d b
    rw [hdec b h1]
  refine ⟨(sortR (bs.map (rng d))).map dec, ?_, ?_, hback.symm⟩
  · have h1 := hp.map dec
    have h2 : (bs.map (rng d)).map dec = bs := by
      rw [List.map_map]
      conv => rhs; rw [← List.map_id bs]
      exact List.map_congr_left (fun b h => hdec b (hb b h))
    rw [h2] at h1
    exact h1
  · rw [List.pairwise_iff_getElem]
    intro i j hi hj hij
    have hl : (sortR (bs.map (rng d))).length = (bs.map (rng d)).length := hp.length_eq
    have hj' : j < (sortR (bs.map (rng d))).length := by simpa using hj
    have hi' : i < (sortR (bs.map (rng d))).length := by omega
    have h1 := hs i j hij (by omega)
    obtain ⟨bi, hbi, ei⟩ := hmem _ (List.getElem_mem hi')
    obtain ⟨bj, hbj, ej⟩ := hmem _ (List.getElem_mem hj')
    have ai : (sortR (bs.map (rng d))).toArray[i]! = rng d bi := by rw [ei]; simp [hi']
    have aj : (sortR (bs.map (rng d))).toArray[j]! = rng d bj := by rw [ej]; simp [hj']
    rw [ai, aj] at h1
    have h2 : ∀ b, (rng d b).f0.data.toList = lowL d b := fun b => by rw [← ByteArray.toList_eq]; exact mkB_list _
    rw [h2, h2] at h1
    simp only [List.getElem_map]
    rw [← ei, ← ej, hdec _ hbi, hdec _ hbj]
    rcases Nat.lt_or_ge bj bi with h3 | h3
    · rw [(low_lt d bj bi hd hbj hbi).2 h3] at h1; cases h1
    · exact h3
theorem normal_law (bs : List Nat) (hb : ∀ b ∈ bs, b < cntN d) (hl : bs.length ≤ 4294967296) : span_Normal.f (bs.map (rng d)) = some ((refN (inL bs) (cntN d)).map (img d)) := by
  have hne : neAll (bs.map (rng d)) = true := by
    unfold neAll
    rw [Bool.and_eq_true]
    refine ⟨decide_eq_true (by simpa using hl), List.all_eq_true.2 (fun x hx => ?_)⟩
    obtain ⟨b, h1, rfl⟩ := List.mem_map.1 hx
    have hbN := hb b h1
    show ((mkB (hiL d b)).toList == [] || Op.bytesLess (mkB (lowL d b)).toList (mkB (hiL d b)).toList) = true
    rw [mkB_list, mkB_list]
    unfold hiL
    by_cases h2 : b + 1 < cntN d
    · rw [if_pos h2, Bool.or_eq_true]
      exact .inr ((low_lt d b (b + 1) hd hbN h2).2 (by omega))
    · rw [if_neg h2]; rfl
  obtain ⟨cs, hp, hs, e⟩ := sort_rng hd bs hb
  have hc : ∀ c ∈ cs, c < cntN d := fun c h => hb c (hp.mem_iff.1 h)
  unfold span_Normal.f span_merged.f
  rw [if_pos hne, Option.bind_some, e]
  have h1 := fold_img hd cs [] hc (fun x h => by simp at h)
  rw [List.map_nil] at h1
  rw [h1, runs cs hs (cntN d) hc]
  congr 2
  refine refN_congr _ _ _ (fun b _ => ?_)
  unfold inL
  exact decide_eq_decide.2 hp.mem_iff
theorem prog_loop (bs : List Int) (hl : bs.length ≤ 4294967296) : ∀ (m i k : Nat), i + m = bs.length → 7 + m ≤ k →
    span_Ranges.l0 k d ((bs.take i).map (fun b => rng d b.toNat)) bs (bs.length : Int) (i : Int) = if (bs.drop i).all (valid d) = true then (span_Normal.f (bs.map (fun b => rng d b.toNat))).bind (fun t => some (t, 0)) else some ([], 62) := by
  intro m
  induction m with
  | zero =>
    intro i k hi hk
    obtain ⟨k, rfl⟩ : ∃ q, k = q + 1 := ⟨k - 1, by omega⟩
    obtain rfl : i = bs.length := by omega
    rw [span_Ranges.l0, if_neg (by omega), List.take_length, List.drop_length]
    simp
  | succ m ih =>
    intro i k hi hk
    obtain ⟨k, rfl⟩ : ∃ q, k = q + 1 := ⟨k - 1, by omega⟩
    have hlt : i < bs.length := by omega
    obtain ⟨q, rfl⟩ : ∃ q, k = 6 + q := ⟨k - 6, by omega⟩
    rw [span_Ranges.l0, if_pos (by omega), if_pos (by omega), if_pos (by omega), rd_get bs i hlt, List.drop_eq_getElem_cons hlt, List.all_cons]
    by_cases hv : valid d bs[i] = true
    · have hv' := of_decide_eq_true hv
      obtain ⟨b, hb⟩ := Int.eq_ofNat_of_zero_le hv'.1
      have hbN : b < cntN d := by omega
      have ho : span_Of.f (6 + q) d bs[i] = some (mkB (lowL d b), mkB (hiL d b), 0) := by rw [hb]; exact of_at d b hd hbN q
      rw [ho, Option.bind_some, if_pos rfl, if_pos (by simp; omega), w_step i (by omega), hv, Bool.true_and]
      have h2 := ih (i + 1) (6 + q) (by omega) (by omega)
      rw [List.take_add_one, List.getElem?_eq_getElem hlt, List.map_append] at h2
      have e : ((some bs[i]).toList.map fun b => rng d b.toNat) = [(⟨mkB (lowL d b), mkB (hiL d b)⟩ : S31)] := by rw [hb]; rfl
      rw [e] at h2
      exact h2
    · have hv0 : valid d bs[i] = false := by simpa using hv
      have hbad : bs[i] < 0 ∨ (cntN d : Int) ≤ bs[i] := by
        have h := of_decide_eq_false hv0
        omega
      rw [of_bad d bs[i] hd hbad q, Option.bind_some, if_neg (by decide), hv0, Bool.false_and, if_neg (by decide)]
end
end Go.Proofs.YtjjdjanhghahbaaDoor.RangesPure

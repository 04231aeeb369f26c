/- What is proved: the plain law of SpanWhole: at any number the printed law answers true; no condition but the number's kind. -/
import Derived.Test.YtjjdjanhghahbaaDoorRangesPure
namespace Go.Proofs.YtjjdjanhghahbaaDoor.Pure
open Go.RowKit Go.Proofs.YtjjdjanhghahbaaDoor.PSpanWhole Go.Proofs.YtjjdjanhghahbaaDoor.RangesLow Go.Proofs.YtjjdjanhghahbaaDoor.RangesPure Go.Proofs.YtjjdjanhghahbaaDoor.Runs Go.Proofs.YtjjdjanhghahbaaDoorW.PrintWords Go.Proofs.YtjjdjanhghahbaaDoorW.PrintLast
set_option linter.unusedVariables false
set_option linter.unusedSimpArgs false
theorem refN_run (S : Nat → Bool) (s e : Nat) (hse : s < e) (N : Nat) (h : ∀ b, b < N → S b = decide (s ≤ b ∧ b < e)) : ∀ B, B ≤ N → refN S B = if B ≤ s then [] else [(s, min B e)]
  | 0, _ => by simp [refN]
  | B + 1, hB => by
    have ih := refN_run S s e hse N h B (by omega)
    have h0 := h B (by omega)
    rw [refN, h0, ih]
    by_cases h1 : s ≤ B ∧ B < e
    · rw [if_pos (decide_eq_true h1), if_neg (by omega : ¬ B + 1 ≤ s)]
      have hm : min (B + 1) e = B + 1 := by omega
      rw [hm]
      by_cases h2 : s < B
      · have h3 : S (B - 1) = true := by rw [h (B - 1) (by omega)]; exact decide_eq_true (by omega)
        rw [if_pos ⟨by omega, h3⟩, if_neg (by omega : ¬ B ≤ s)]
        exact grow_snoc [] s _ B
      · obtain rfl : s = B := by omega
        have h3 : ¬ (0 < s ∧ S (s - 1) = true) := by
          rintro ⟨h4, h5⟩
          rw [h (s - 1) (by omega)] at h5
          have := of_decide_eq_true h5
          omega
        rw [if_neg h3, if_pos (Nat.le_refl s)]
        rfl
    · rw [if_neg (by rw [decide_eq_false h1]; exact Bool.false_ne_true)]
      by_cases h2 : B < s
      · rw [if_pos (by omega : B ≤ s), if_pos (by omega : B + 1 ≤ s)]
      · rw [if_neg (by omega : ¬ B ≤ s), if_neg (by omega : ¬ B + 1 ≤ s)]
        have e1 : min B e = e := by omega
        have e2 : min (B + 1) e = e := by omega
        rw [e1, e2]
theorem ranges_f {d : Int} (hd : d = 1 ∨ d = 2 ∨ d = 3) (bs : List Int) (hv : ∀ b ∈ bs, 0 ≤ b ∧ b < (cntN d : Int)) (hl : bs.length ≤ 4096) (s e : Nat) (hrun : refN (inL (bs.map Int.toNat)) (cntN d) = [(s, e)]) (k : Nat) (hk : 7 + bs.length ≤ k) :
    span_Ranges.f k d bs = some ([img d (s, e)], 0) := by
  obtain ⟨c1, c2, c3, c4⟩ := count_in d hd
  obtain ⟨q, rfl⟩ : ∃ q, k = 6 + q := ⟨k - 6, by omega⟩
  have hN := normal_law hd (bs.map Int.toNat) (fun b hb => by
    obtain ⟨x, hx, rfl⟩ := List.mem_map.1 hb
    have := hv x hx; omega) (by simp; omega)
  rw [List.map_map] at hN
  have h := prog_loop hd bs (by omega) bs.length 0 (6 + q) (by omega) (by omega)
  have hall : (bs.drop 0).all (valid d) = true := by
    rw [List.drop_zero]
    exact List.all_eq_true.2 (fun b hb => decide_eq_true (hv b hb))
  rw [if_pos hall] at h
  have e1 : bs.map (fun b => rng d b.toNat) = bs.map (rng d ∘ Int.toNat) := rfl
  rw [e1, hN, Option.bind_some, hrun] at h
  unfold span_Ranges.f
  rw [count_up d _ c1 q, Option.bind_some, if_neg (by omega)]
  exact h
theorem equal_one (x : S31) (k : Nat) : hawserlaw06_equal.f (5 + k) [x] [x] = some true := by
  have w0 : wrap64 ((0 : Int) + 1) = 1 := IntWalk.wrap64_in _ (by omega)
  have p : hawserlaw06_plain.f (5 + k) [x] = some [(⟨x.f0, x.f1⟩ : S42)] := by
    unfold hawserlaw06_plain.f
    rw [show 5 + k = (k + 3) + 1 + 1 by omega, hawserlaw06_plain.l0, if_pos (by simp), if_pos (by decide), if_pos (by simp), w0, hawserlaw06_plain.l0, if_neg (by simp)]
    rfl
  have r : hawserlaw06_same.f (5 + k) [x] [(⟨x.f0, x.f1⟩ : S42)] = some true := by
    unfold hawserlaw06_same.f
    rw [show 5 + k = (k + 1) + 1 + 1 + 1 + 1 by omega, hawserlaw06_same.l0, if_pos (by simp), show decide ((0 : Int) < (([(⟨x.f0, x.f1⟩ : S42)] : List S42).length : Int)) = true from rfl, hawserlaw06_same.j1, if_pos rfl, if_pos (by decide), if_pos (by simp), if_pos (by simp), if_pos (show (rd_T31 [x] 0).f0.toList = (rd_T42 [(⟨x.f0, x.f1⟩ : S42)] 0).f0.toList from rfl), if_pos (show (rd_T31 [x] 0).f1.toList = (rd_T42 [(⟨x.f0, x.f1⟩ : S42)] 0).f1.toList from rfl), w0, hawserlaw06_same.l0, if_neg (by simp), hawserlaw06_same.j1, if_neg (by decide)]
    simp
  unfold hawserlaw06_equal.f
  rw [p, Option.bind_some, r, Option.bind_some]
theorem sorted_pair : sortR [rB, rA] = [rA, rB] := by
  obtain ⟨hp, hs⟩ := sortR_both [rB, rA]
  have hl := hp.length_eq
  have h01 := hs 0 1 (by decide) (by decide)
  generalize hz : sortR [rB, rA] = z at hp hs hl h01
  match z, hl with
  | [x, y], _ =>
    have hx : x = rB ∨ x = rA := by
      have := hp.mem_iff.1 (List.mem_cons_self (a := x) (l := [y]))
      simpa using this
    rcases hx with rfl | rfl
    · have h1 := List.perm_singleton.1 ((List.perm_cons rB).1 hp)
      injection h1 with h1
      subst h1
      have h2 : lessB [97] [98] = false := h01
      exact absurd h2 (by decide)
    · have h1 := List.perm_singleton.1 ((List.perm_cons rA).1 (hp.trans (List.Perm.swap rA rB [])))
      injection h1 with h1
      subst h1
      rfl
theorem awake_law (k : Nat) : hawserlaw06_awake.f (5 + k) = some true := by
  have hm : span_Normal.f [rB, rA] = some [rC] := by
    unfold span_Normal.f span_merged.f
    rw [if_pos (show neAll [rB, rA] = true by decide +kernel), Option.bind_some, sorted_pair]
    have e1 : stepR [] rA = [rA] := rfl
    have e2 : stepR [rA] rB = [rC] := by
      have h := step_snoc [] rA rB
      rw [List.nil_append] at h
      have t1 : rA.f1.toList = [98] := mkB_list [98]
      have t2 : rB.f0.toList = [98] := mkB_list [98]
      have t3 : rB.f1.toList = [99] := mkB_list [99]
      rw [h, t1, t2, t3, if_neg (by decide), if_neg (by decide), if_neg (by decide), if_pos (by decide)]
      rfl
    rw [List.foldl_cons, e1, List.foldl_cons, e2, List.foldl_nil]
  unfold hawserlaw06_awake.f
  rw [show ([(⟨(⟨#[98]⟩ : ByteArray), (⟨#[99]⟩ : ByteArray)⟩ : S31), (⟨(⟨#[97]⟩ : ByteArray), (⟨#[98]⟩ : ByteArray)⟩ : S31)] : List S31) = [rB, rA] from rfl, hm, Option.bind_some, show (⟨(⟨#[97]⟩ : ByteArray), (⟨#[99]⟩ : ByteArray)⟩ : S31) = rC from rfl, equal_one rC k, Option.bind_some]
theorem all_run (d : Int) (hd : d = 1 ∨ d = 2 ∨ d = 3) : refN (inL (((List.range (cntN d)).map (fun x : Nat => (x : Int))).map Int.toNat)) (cntN d) = [(0, cntN d)] := by
  obtain ⟨-, c2, c3, c4⟩ := count_in d hd
  have h := refN_run (inL (((List.range (cntN d)).map (fun x : Nat => (x : Int))).map Int.toNat)) 0 (cntN d) c2 (cntN d) (fun b hb => by
    unfold inL
    apply decide_eq_decide.2
    constructor
    · intro _; omega
    · intro _
      exact List.mem_map.2 ⟨(b : Int), List.mem_map.2 ⟨b, List.mem_range.2 hb, rfl⟩, by simp⟩) (cntN d) (Nat.le_refl _)
  rw [h, if_neg (by omega), Nat.min_self]
theorem all_img (d : Int) : img d (0, cntN d) = (⟨(⟨#[]⟩ : ByteArray), (⟨#[]⟩ : ByteArray)⟩ : S31) := by
  unfold img endL
  rw [if_neg (by simp)]
  rfl
def kids (b n : Nat) : List Int := (List.range n).map (fun j : Nat => ((16 * b + 15 - j : Nat) : Int))
theorem kids_run (d : Int) (b : Nat) (hb : 16 * b + 16 ≤ cntN d) : refN (inL ((kids b 16).map Int.toNat)) (cntN d) = [(16 * b, 16 * b + 16)] := by
  have h := refN_run (inL ((kids b 16).map Int.toNat)) (16 * b) (16 * b + 16) (by omega) (cntN d) (fun x hx => by
    unfold inL kids
    apply decide_eq_decide.2
    constructor
    · intro h
      obtain ⟨y, hy, rfl⟩ := List.mem_map.1 h
      obtain ⟨j, hj, rfl⟩ := List.mem_map.1 hy
      have := List.mem_range.1 hj
      omega
    · intro h
      exact List.mem_map.2 ⟨(x : Int), List.mem_map.2 ⟨16 * b + 15 - x, List.mem_range.2 (by omega), by omega⟩, by simp⟩) (cntN d) (Nat.le_refl _)
  rw [h, if_neg (by omega), Nat.min_eq_right (by omega)]
theorem kids_img (b : Nat) : ∀ d : Int, d = 1 ∨ d = 2 → b < cntN d → img (d + 1) (16 * b, 16 * b + 16) = (⟨mkB (lowL d b), mkB (hiL d b)⟩ : S31) := by
  have low : ∀ (d : Int) (x : Nat), d = 1 ∨ d = 2 → lowL (d + 1) (16 * x) = lowL d x := by
    intro d x hd
    rcases hd with rfl | rfl
    · unfold lowL lowN
      by_cases h : x = 0
      · subst h; rfl
      · rw [if_neg (by omega), if_neg h, if_neg (by decide), if_pos (by decide), if_pos rfl, Nat.mul_comm]
    · unfold lowL lowN
      by_cases h : x = 0
      · subst h; rfl
      · rw [if_neg (by omega), if_neg h, if_neg (by decide), if_neg (by decide), if_pos (by omega), if_neg (by decide), if_pos rfl, show 16 * x / 16 = x by omega]
  intro d hd hb
  unfold img endL hiL
  simp only
  rw [low d b hd, show 16 * b + 16 = 16 * (b + 1) by omega, low d (b + 1) hd]
  have hc : cntN (d + 1) = 16 * cntN d := by rcases hd with rfl | rfl <;> rfl
  rw [hc]
  by_cases h : b + 1 < cntN d
  · rw [if_pos (by omega), if_pos h]
  · rw [if_neg (by omega), if_neg h]
theorem l1_law (x0 d : Int) (N : Nat) (hN : N ≤ 4096) : ∀ m i k : Nat, i + m = N → hawserlaw06_SpanWhole.l1 (m + 1 + k) x0 N d ((List.range i).map (fun x : Nat => (x : Int))) i = hawserlaw06_SpanWhole.l1 (1 + k) x0 N d ((List.range N).map (fun x : Nat => (x : Int))) N := by
  intro m
  induction m with
  | zero => intro i k hi; obtain rfl : i = N := by omega
            rw [Nat.zero_add]
  | succ m ih =>
    intro i k hi
    have h := ih (i + 1) k (by omega)
    rw [show m + 1 + 1 + k = (m + 1 + k) + 1 by omega, hawserlaw06_SpanWhole.l1, if_pos (by omega), if_pos (by simp; omega), w_step i (by omega)]
    rw [List.range_succ, List.map_append, List.map_cons, List.map_nil] at h
    exact h
theorem l2_law (x0 d : Int) (N b : Nat) (hb : b ≤ 4096) (r1 r2 : ByteArray) : ∀ m i k : Nat, i + m = 16 → hawserlaw06_SpanWhole.l2 (m + 1 + k) x0 N d b (kids b i) i r1 r2 = hawserlaw06_SpanWhole.l2 (1 + k) x0 N d b (kids b 16) 16 r1 r2 := by
  intro m
  induction m with
  | zero => intro i k hi; obtain rfl : i = 16 := by omega
            rw [Nat.zero_add]; rfl
  | succ m ih =>
    intro i k hi
    have h := ih (i + 1) k (by omega)
    have e1 : wrap64 (16 * (b : Int)) = 16 * (b : Int) := IntWalk.wrap64_in _ (by omega)
    have e2 : wrap64 (16 * (b : Int) + 15) = 16 * (b : Int) + 15 := IntWalk.wrap64_in _ (by omega)
    have e3 : wrap64 (16 * (b : Int) + 15 - (i : Int)) = ((16 * b + 15 - i : Nat) : Int) := by rw [IntWalk.wrap64_in _ (by omega)]; omega
    rw [show m + 1 + 1 + k = (m + 1 + k) + 1 by omega, hawserlaw06_SpanWhole.l2, if_pos (by omega), if_pos (by simp [kids]; omega), w_step i (by omega), e1, e2, e3]
    unfold kids at h ⊢
    rw [List.range_succ, List.map_append, List.map_cons, List.map_nil] at h
    exact h
theorem j2_at (x : Nat) (d : Int) (hd : d = 1 ∨ d = 2 ∨ d = 3) (k : Nat) : hawserlaw06_SpanWhole.j2 (7 + k) (x : Int) (cntN d : Int) d false = if d = 3 then hawserlaw06_SpanWhole.l0 (6 + k) (x : Int) (cntN d : Int) (wrap64 (d + 1)) else hawserlaw06_SpanWhole.l2 (6 + k) (x : Int) (cntN d : Int) d ((x % cntN d : Nat) : Int) [] 0 (mkB (lowL d (x % cntN d))) (mkB (hiL d (x % cntN d))) := by
  obtain ⟨-, c2, c3, c4⟩ := count_in d hd
  have hlt := Nat.mod_lt x c2
  have u : IntKind.u64.wrap (cntN d : Int) = (cntN d : Int) := by rcases hd with rfl | rfl | rfl <;> decide
  have t : wrap64 (Int.tmod (x : Int) (cntN d : Int)) = ((x % cntN d : Nat) : Int) := by
    rw [show Int.tmod (x : Int) (cntN d : Int) = ((x % cntN d : Nat) : Int) from rfl]
    exact IntWalk.wrap64_in _ (by omega)
  rw [show 7 + k = (6 + k) + 1 by omega, hawserlaw06_SpanWhole.j2, if_neg (by decide), u, if_neg (by omega), t, of_at d (x % cntN d) hd hlt k, Option.bind_some, if_pos rfl]
theorem l1_end (x0 d : Int) (hd : d = 1 ∨ d = 2 ∨ d = 3) (k : Nat) (hk : 7 + cntN d ≤ k) : hawserlaw06_SpanWhole.l1 (1 + k) x0 (cntN d : Int) d ((List.range (cntN d)).map (fun x : Nat => (x : Int))) (cntN d : Int) = hawserlaw06_SpanWhole.j2 k x0 (cntN d : Int) d false := by
  obtain ⟨-, c2, c3, c4⟩ := count_in d hd
  have hr := ranges_f hd ((List.range (cntN d)).map (fun x : Nat => (x : Int))) (fun b hb => by
    obtain ⟨x, hx, rfl⟩ := List.mem_map.1 hb
    have := List.mem_range.1 hx
    omega) (by simpa using c3) 0 (cntN d) (all_run d hd) k (by simpa using hk)
  obtain ⟨q, rfl⟩ : ∃ q, k = 5 + q := ⟨k - 5, by omega⟩
  rw [show 1 + (5 + q) = (5 + q) + 1 by omega, hawserlaw06_SpanWhole.l1, if_neg (by omega), hr, Option.bind_some, if_pos rfl, all_img d, equal_one, Option.bind_some]
  rfl
theorem l2_end (x0 d : Int) (hd : d = 1 ∨ d = 2) (b : Nat) (hb : b < cntN d) (k : Nat) (hk : 23 ≤ k) : hawserlaw06_SpanWhole.l2 (1 + k) x0 (cntN d : Int) d b (kids b 16) 16 (mkB (lowL d b)) (mkB (hiL d b)) = hawserlaw06_SpanWhole.l0 k x0 (cntN d : Int) (d + 1) := by
  have hd1 : d + 1 = 1 ∨ d + 1 = 2 ∨ d + 1 = 3 := by omega
  have hc : cntN (d + 1) = 16 * cntN d := by rcases hd with rfl | rfl <;> rfl
  have w1 : wrap64 (d + 1) = d + 1 := IntWalk.wrap64_in _ (by omega)
  have hr := ranges_f hd1 (kids b 16) (fun y hy => by
    obtain ⟨j, hj, rfl⟩ := List.mem_map.1 hy
    have := List.mem_range.1 hj
    omega) (by simp [kids]) (16 * b) (16 * b + 16) (kids_run (d + 1) b (by omega)) k (by simpa [kids] using hk)
  obtain ⟨q, rfl⟩ : ∃ q, k = 5 + q := ⟨k - 5, by omega⟩
  rw [show 1 + (5 + q) = (5 + q) + 1 by omega, hawserlaw06_SpanWhole.l2, if_neg (by omega), w1, hr, Option.bind_some, if_pos rfl, kids_img b d hd hb, equal_one, Option.bind_some, if_pos rfl]
theorem level (x : Nat) (d : Int) (hd : d = 1 ∨ d = 2) (n0 : Int) (hn : n0 * 16 = (cntN d : Int)) (k : Nat) (hk : 300 ≤ k) : hawserlaw06_SpanWhole.l0 (1 + (cntN d + 1 + (1 + (17 + k)))) (x : Int) n0 d = hawserlaw06_SpanWhole.l0 k (x : Int) (cntN d : Int) (d + 1) := by
  have hd3 : d = 1 ∨ d = 2 ∨ d = 3 := by omega
  obtain ⟨-, c2, c3, c4⟩ := count_in d hd3
  have hcs : cntN d ≤ 256 := by rcases hd with rfl | rfl <;> decide
  have wn : wrap64 (n0 * 16) = (cntN d : Int) := by rw [hn]; exact IntWalk.wrap64_in _ (by omega)
  have hlt := Nat.mod_lt x c2
  rw [show 1 + (cntN d + 1 + (1 + (17 + k))) = (cntN d + 1 + (18 + k)) + 1 by omega, hawserlaw06_SpanWhole.l0, if_pos (by omega), wn]
  have h1 := l1_law (x : Int) d (cntN d) c3 (cntN d) 0 (18 + k) (by omega)
  refine h1.trans ?_
  rw [l1_end (x : Int) d hd3 (18 + k) (by omega)]
  obtain ⟨q, hq⟩ : ∃ q, 18 + k = 7 + q := ⟨11 + k, by omega⟩
  rw [hq, j2_at x d hd3 q, if_neg (by omega), show 6 + q = 16 + 1 + k by omega]
  have h2 := l2_law (x : Int) d (cntN d) (x % cntN d) (by omega) (mkB (lowL d (x % cntN d))) (mkB (hiL d (x % cntN d))) 16 0 k (by omega)
  refine h2.trans ?_
  exact l2_end (x : Int) d hd _ hlt k (by omega)
theorem level3 (x : Nat) (k : Nat) (hk : 4200 ≤ k) : hawserlaw06_SpanWhole.l0 (1 + (4096 + 1 + (1 + k))) (x : Int) 256 3 = some true := by
  have hd3 : (3 : Int) = 1 ∨ (3 : Int) = 2 ∨ (3 : Int) = 3 := .inr (.inr rfl)
  have c : cntN 3 = 4096 := rfl
  have wn : wrap64 ((256 : Int) * 16) = ((cntN 3 : Nat) : Int) := by rw [show ((cntN 3 : Nat) : Int) = 4096 from rfl]; exact IntWalk.wrap64_in _ (by omega)
  rw [show 1 + (4096 + 1 + (1 + k)) = (4096 + 1 + (1 + k)) + 1 by omega, hawserlaw06_SpanWhole.l0, if_pos (by decide), wn]
  have h1 := l1_law (x : Int) 3 (cntN 3) (by decide) (cntN 3) 0 (1 + k) (by omega)
  rw [c] at h1
  refine h1.trans ?_
  have h2 := l1_end (x : Int) 3 hd3 (1 + k) (by omega)
  rw [c] at h2
  refine h2.trans ?_
  obtain ⟨q, rfl⟩ : ∃ q, k = 6 + q := ⟨k - 6, by omega⟩
  have h3 := j2_at x 3 hd3 q
  rw [c] at h3
  rw [show 1 + (6 + q) = 7 + q by omega]
  refine h3.trans ?_
  rw [if_pos rfl, show wrap64 ((3 : Int) + 1) = 4 from IntWalk.wrap64_in _ (by omega), show 6 + q = (5 + q) + 1 by omega, hawserlaw06_SpanWhole.l0, if_neg (by decide)]
theorem SpanWhole : hawserlaw06_SpanWhole.Pure := by
  intro a0 h0
  obtain ⟨x, rfl⟩ : ∃ x : Nat, a0 = (x : Int) := by
    have h1 : (decide (IntKind.u64.min ≤ a0) && decide (a0 ≤ IntKind.u64.max)) = true := h0
    rw [Bool.and_eq_true] at h1
    have h2 := of_decide_eq_true h1.1
    have h3 : IntKind.u64.min = 0 := rfl
    have this : 0 ≤ a0 := by omega
    exact Int.eq_ofNat_of_zero_le this
  refine ⟨1 + (16 + 1 + (1 + (17 + (1 + (256 + 1 + (1 + (17 + (1 + (4096 + 1 + (1 + 4200)))))))))), ?_⟩
  unfold hawserlaw06_SpanWhole.f
  rw [show 1 + (16 + 1 + (1 + (17 + (1 + (256 + 1 + (1 + (17 + (1 + (4096 + 1 + (1 + 4200)))))))))) = 5 + 8606 from rfl, awake_law, Option.bind_some, if_pos rfl]
  have a1 := level x 1 (.inl rfl) 1 rfl (1 + (256 + 1 + (1 + (17 + (1 + (4096 + 1 + (1 + 4200))))))) (by omega)
  have a2 := level x 2 (.inr rfl) 16 rfl (1 + (4096 + 1 + (1 + 4200))) (by omega)
  exact a1.trans (a2.trans (level3 x 4200 (Nat.le_refl _)))
end Go.Proofs.YtjjdjanhghahbaaDoor.Pure

/- What is proved: of any numbers the law makes an order; what a search finds and what Holds takes go together. -/
import Derived.Test.YtbakmkoppieelaaLHld
namespace Go.Proofs.Ytbakmkoppieelaa.PLinearChecks
open Go.RowKit Go.Proofs.YtbakmkoppieelaaW.PrintWords Go.Proofs.YtbakmkoppieelaaW.PrintLast Go.Proofs.YtbakmkoppieelaaW.PrintMore
set_option linter.unusedVariables false
set_option linter.unusedSimpArgs false
/-- What a search and any order have to do with each other. -/
theorem finds_law {l : List S39} (hl : l.length ≤ 10) (hr : refF l = 0) {o : List Nat} (ho : Oks l o) :
    ((hldA l (o.map Int.ofNat)).2 = 0 ∨ (hldA l (o.map Int.ofNat)).2 = 262) ∧ 0 ≤ (hldA l (o.map Int.ofNat)).1 ∧ (hldA l (o.map Int.ofNat)).1 ≤ (o.length : Int) ∧ ((hldA l (o.map Int.ofNat)).2 = 0 → (srcF l).isSome = true) := by
  have e : hldA l (o.map Int.ofNat) = hldF l [] zK o := by
    unfold hldA
    rw [if_pos hr, if_pos (oks_all ho), map_back]
  rw [e]
  obtain ⟨h1, h2, h3⟩ := hld_two l o [] zK
  refine ⟨h1, h2, by simpa using h3, fun h4 => ?_⟩
  have h5 := hld_wit l (o.map Int.ofNat) [] zK (oks_all ho) (by rw [map_back]; exact h4)
  rw [map_back] at h5
  rw [show srcF l = goF l 10 [] zK from if_pos ⟨hr, hl⟩]
  exact go_find l o 10 [] zK (by have := oks_len ho; omega) h5
theorem finds_own {l : List S39} (hl : l.length ≤ 10) (hr : refF l = 0) {r : List Nat} (h : srcF l = some r) : hldA l (r.map Int.ofNat) = (0, 0) ∧ r.length ≤ 10 := by
  rw [show srcF l = goF l 10 [] zK from if_pos ⟨hr, hl⟩] at h
  obtain ⟨t, e, ht, hw⟩ := go_wit l 10 [] zK r h
  rw [List.nil_append] at e
  subst e
  obtain ⟨h1, h2⟩ := wit_hld l r [] zK hw
  refine ⟨?_, ht⟩
  unfold hldA
  rw [if_pos hr, if_pos h2, map_back]
  exact h1
theorem uint_at {w : World} {A : Option Addr} {n : Nat} {xs : List Int} (h : Kd.C (Kd.int .u64) w A n xs) (k : Int) (h0 : 0 ≤ k) (h1 : k < n) : ∃ ad, A = some ad ∧ w.cell? (ad.add k.toNat) = some (.int .u64 (ix xs k)) := by
  obtain ⟨ad, c, e, _, hK, hc0⟩ := Kd.C_get h 0 k h0 h1
  have hc : c = [.int .u64 (ix xs k)] := hK
  subst hc
  have h2 := hc0 0 _ rfl
  exact ⟨ad, e, by have h3 : k.toNat * (Kd.int IntKind.u64).sz + 0 = k.toNat := by show k.toNat * 1 + 0 = k.toNat; omega
                   rw [h3] at h2; exact h2⟩
theorem ix_mem {xs : List Int} {k : Int} (h0 : 0 ≤ k) (h1 : k < xs.length) : ix xs k ∈ xs := by
  unfold ix
  rw [List.getD_eq_getElem?_getD, List.getElem?_eq_getElem (show k.toNat < xs.length by omega)]
  exact List.getElem_mem _
def OrdTo (w : World) (l : List S39) (e : Ending) (w' : World) : Prop := ∃ v o, e = .returned v ∧ Oks l o ∧ w'.ownsRow w.heap.size 3 1 v o.length (ordV o) ∧ Below w.heap.size w w'
theorem mod_at {r n : Int} (h0 : 0 ≤ r) (hn : 0 < n) : 0 ≤ r % n ∧ r % n < n := ⟨Int.emod_nonneg _ (by omega), Int.emod_lt_of_pos _ hn⟩
theorem u64_w (x : Int) (h0 : 0 ≤ x) (h1 : x ≤ 1000000000000) : IntKind.u64.wrap x = x := by
  show x % 18446744073709551616 = x
  omega
def seenB (o : List Nat) (j : Int) (k : Nat) : Bool := (o.take j.toNat).contains k
theorem seen_succ {o : List Nat} {j : Int} {k : Nat} (h0 : 0 ≤ j) (h1 : j < o.length) : seenB o (j + 1) k = (seenB o j k || (o.getD j.toNat 0 == k)) := by
  unfold seenB
  have hj : j.toNat < o.length := by omega
  rw [show (j + 1).toNat = j.toNat + 1 by omega, List.take_succ_eq_append_getElem hj, List.getD_eq_getElem?_getD, List.getElem?_eq_getElem hj]
  rw [Bool.eq_iff_iff]
  simp only [List.contains_iff_mem, List.mem_append, List.mem_singleton, Bool.or_eq_true, beq_iff_eq, Option.getD_some]
  constructor
  · rintro (h | h)
    · exact Or.inl h
    · exact Or.inr h.symm
  · rintro (h | h)
    · exact Or.inl h
    · exact Or.inr h.symm
theorem seen_all (o : List Nat) (k : Nat) : seenB o (o.length : Int) k = o.contains k := by
  unfold seenB
  rw [Int.toNat_natCast, List.take_length]
theorem ord_cell {w : World} {B : Nat} {v : Value} {o : List Nat} (h : w.ownsRow B 3 1 v o.length (ordV o)) {j : Int} (h0 : 0 ≤ j) (h1 : j < o.length) : ∃ g cap, v = .slice (some ⟨g, 0, none⟩) o.length cap ∧ w.cell? ⟨g, j.toNat, none⟩ = some (.int .i64 ((o.getD j.toNat 0 : Nat) : Int)) := by
  have hj : j.toNat < o.length := by omega
  rcases h.2 with ⟨_, e⟩ | ⟨g, cap, cur, e, hb, hg, hc, hm, hs, ht⟩
  · omega
  · subst e
    refine ⟨g, cap, rfl, ?_⟩
    have h2 := h.cellAt j.toNat (by omega)
    rw [h2]
    unfold ordV
    rw [List.getElem?_map, List.getElem?_eq_getElem hj, List.getD_eq_getElem?_getD, List.getElem?_eq_getElem hj]
    rfl
set_option maxRecDepth 100000 in
set_option maxHeartbeats 32000000 in
theorem orders_any (w : World) (A Ar : Option Addr) (c cr : Nat) (l : List S39) (raw : List Int) (hr : Kd.C k39 w A l.length l) (hc : l.length ≤ c) (hx : Kd.C (Kd.int .u64) w Ar raw.length raw) (hcr : raw.length ≤ cr) (hn : l.length ≤ 10) (hnr : raw.length ≤ 100000000000000) (hw : ∀ r ∈ raw, 0 ≤ r) :
    Calls Try.prog 38 #[.slice A l.length c, .slice Ar raw.length cr] w fun e w' => OrdTo w l e w' := by
  have HR := Lib.hid hr
  have HX := Lib.hid hx
  have HN := Lib.hid (And.intro hn hnr)
  have HW := Lib.hid hw
  clear hr hx hw
  obtain ⟨d3, i31, i32, i33, i34⟩ := info_parts info3
  have I3 := Lib.hid (And.intro i31 (And.intro i32 (And.intro i33 i34)))
  clear i31 i32 i33 i34
  go_enter Try.func38, Try.ntmps38
  go_wp2
  go_loopw [5, 6] (fun v5 v6 wr => ∃ i : Int, v6 = .int .i64 i ∧ (0 ≤ i ∧ i ≤ (raw.length : Int)) ∧ RowKit.Hid (∃ o, Oks l o ∧ wr.ownsRow w.heap.size 3 1 v5 o.length (ordV o) ∧ Below w.heap.size w wr)) (fun _ v6 _ => ((raw.length : Int) - intOf v6).toNat)
  case atStart => exact ⟨0, rfl, ⟨by omega, by omega⟩, Lib.hid ⟨[], ⟨List.nodup_nil, fun x hx => by cases hx⟩, World.ownsRow_nil _ _ _ _, Below.refl _ _⟩⟩
  case round =>
    obtain ⟨i, rfl, ⟨i0, i1⟩, HO⟩ := hrel
    by_cases hlt : i < (raw.length : Int)
    · have c1 : decide (i < (raw.length : Int)) = true := decide_eq_true hlt
      by_cases hl0 : 0 < l.length
      · obtain ⟨o, hok, hown, hbl⟩ := HO.out
        have OK := Lib.hid hok
        have OW := Lib.hid hown
        have HB := Lib.hid hbl
        clear hok hown hbl HO
        have c2 : decide ((0 : Int) < (l.length : Int)) = true := by rw [decide_eq_true_eq]; omega
        have c3 : decide (0 < l.length) = true := by rw [decide_eq_true_eq]; exact hl0
        have PI := Lib.hid (show 0 ≤ i ∧ i < (raw.length : Int) by omega)
        have pI := eq_true i0
        have qI := eq_true hlt
        have wi : wrap64 (i + 1) = i + 1 := by have h2 := HN.out; unfold wrap64; omega
        have wi2 : IntKind.i64.wrap (i + 1) = i + 1 := (i64_w _).trans wi
        obtain ⟨adr, eR, kr⟩ := uint_at (Kd.C_below HX.out HB.out) i i0 hlt
        cases eR
        have hr0 := HW.out _ (ix_mem i0 hlt)
        obtain ⟨r, hrr⟩ : ∃ r, ix raw i = r := ⟨_, rfl⟩
        rw [hrr] at kr hr0
        have hm := mod_at (r := r) (n := (l.length : Int)) hr0 (by omega)
        obtain ⟨x, hxx⟩ : ∃ x, r % (l.length : Int) = x := ⟨_, rfl⟩
        rw [hxx] at hm
        have HXM := Lib.hid hxx
        have PX := Lib.hid (show 0 ≤ x ∧ x < (l.length : Int) ∧ x.toNat < l.length by omega)
        have u1 : IntKind.u64.wrap (l.length : Int) = (l.length : Int) := u64_w _ (by omega) (by omega)
        have u2 : IntKind.i64.wrap x = x := by rw [i64_w]; unfold wrap64; omega
        have u3 : wrap64 x = x := by unfold wrap64; omega
        have u4 : ((l.length : Int) == 0) = false := by rw [beq_eq_false_iff_ne]; omega
        have u5 : r.tmod (l.length : Int) = x := by rw [Int.tmod_eq_emod_of_nonneg hr0]; exact hxx
        have u7 : (l.length == 0) = false := by rw [beq_eq_false_iff_ne]; omega
        have u8 : (l.length = 0) = False := eq_false (by omega)
        have u9 : (l = []) = False := eq_false (fun e => by rw [e] at hl0; exact absurd hl0 (by decide))
        have u6 : IntKind.u64.wrap x = x := u64_w _ (by omega) (by omega)
        have pX := eq_true PX.out.1
        have qX := eq_true PX.out.2.1
        obtain ⟨ad, eA, m0, m1, m2, m3, m4, m5, m6, m7, m8, m9, m10, m11, m12, m13, m14, m15⟩ := at_T39 (Kd.C_below HR.out HB.out) x PX.out.1 PX.out.2.1
        cases eA
        clear m0 m1 m3 m4 m5 m6 m7 m8 m10 m11 m12 m13 m14 m15 hrr hm hl0 i0 i1 hlt
        obtain ⟨Ao, co, rfl, hco⟩ := owns_parts OW.out
        have HCO := Lib.hid hco
        clear hco
        obtain ⟨b0, hb0⟩ : ∃ b, ((rd_T39 l x).f2 && !ansB (rd_T39 l x)) = b := ⟨_, rfl⟩
        have HB0 := Lib.hid hb0
        have HQ : RowKit.Hid (((rd_T39 l x).f2 = false ∧ b0 = false) ∨ ((rd_T39 l x).f2 = true ∧ ((rd_T39 l x).f6 == -1) = b0)) := Lib.hid (by
          rw [← hb0]
          unfold ansB
          cases (rd_T39 l x).f2
          · exact Or.inl ⟨rfl, rfl⟩
          · refine Or.inr ⟨rfl, ?_⟩
            cases h : ((rd_T39 l x).f6 == -1) <;> simp_all [bne])
        clear hb0
        rcases HQ.out with ⟨q1, q2⟩ | ⟨q1, q2⟩
        · rw [q1] at m2
          subst q2
          have Q2 := Lib.hid q1
          clear q1 HQ
          go_wp2_with ((fail))
          clear kr m2 m9 u1 u2 u3 u4 u5 u6 u7 u8 u9 hr0
          go_loop [8, 9] (fun v8 v9 => ∃ j : Int, v9 = .int .i64 j ∧ (0 ≤ j ∧ j ≤ (o.length : Int)) ∧ v8 = .bool (false || seenB o j x.toNat)) (fun _ v9 => ((o.length : Int) - intOf v9).toNat)
          case atStart => exact ⟨0, rfl, ⟨by omega, by omega⟩, by simp [seenB]⟩
          case round =>
            obtain ⟨j, rfl, ⟨j0, j1⟩, rfl⟩ := hrel
            by_cases hj : j < (o.length : Int)
            · have e1 : decide (j < (o.length : Int)) = true := decide_eq_true hj
              obtain ⟨g, cap, eg, kg⟩ := ord_cell OW.out j0 hj
              injection eg with eg1 eg2 eg3
              subst eg1 eg3
              have PJ := Lib.hid (show 0 ≤ j ∧ j < (o.length : Int) from ⟨j0, hj⟩)
              have pJ := eq_true j0
              have qJ := eq_true hj
              have wj : wrap64 (j + 1) = j + 1 := by have h2 := HN.out; have h3 := oks_len OK.out; unfold wrap64; omega
              have wj2 : IntKind.i64.wrap (j + 1) = j + 1 := (i64_w _).trans wj
              have HSN := Lib.hid (seen_succ (k := x.toNat) j0 hj)
              obtain ⟨y, hy⟩ : ∃ y, o.getD j.toNat 0 = y := ⟨_, rfl⟩
              rw [hy] at kg HSN
              have HY := Lib.hid (show ((y : Int) == x) = (y == x.toNat) by
                rw [Bool.eq_iff_iff]
                simp only [beq_iff_eq]
                have := PX.out
                omega)
              obtain ⟨s, hs⟩ : ∃ s, (false || seenB o j x.toNat) = s := ⟨_, rfl⟩
              replace HSN := Lib.hid (show (false || seenB o (j + 1) x.toNat) = (s || (y == x.toNat)) by rw [HSN.out, ← hs, Bool.or_assoc])
              rw [hs]
              clear j0 j1 hj hy hs
              cases s with
              | true =>
                go_wp2_with ((fail))
                go_round
                case rel => exact ⟨j + 1, by first | rfl | go_num, ⟨by have := PJ.out; omega, by have := PJ.out; omega⟩, by rw [HSN.out]; rfl⟩
                case measure => have := PJ.out; simp [intOf]; omega
              | false =>
                go_wp2_with ((fail))
                go_round
                case rel => exact ⟨j + 1, by first | rfl | go_num, ⟨by have := PJ.out; omega, by have := PJ.out; omega⟩, by rw [HSN.out, ← HY.out]; simp⟩
                case measure => have := PJ.out; simp [intOf]; omega
            · have e1 : decide (j < (o.length : Int)) = false := decide_eq_false hj
              have ej : j = (o.length : Int) := by omega
              subst ej
              have HSA := Lib.hid (seen_all o x.toNat)
              obtain ⟨s, hs⟩ : ∃ s, (false || seenB o (o.length : Int) x.toNat) = s := ⟨_, rfl⟩
              have HS := Lib.hid (show (false || o.contains x.toNat) = s by rw [← hs, HSA.out])
              rw [hs]
              clear j0 j1 hj hs
              cases s with
              | true =>
                go_wp2_with ((fail))
                go_roundw
                case rel => exact ⟨i + 1, by first | rfl | go_num, ⟨by have := PI.out; omega, by have := PI.out; omega⟩, Lib.hid ⟨o, OK.out, OW.out, HB.out⟩⟩
                case measure => have := PI.out; simp [intOf]; omega
              | false =>
                have HS2 := Lib.hid (Bool.or_eq_false_iff.mp HS.out)
                have OK2 := Lib.hid (oks_snoc OK.out PX.out.2.2 HS2.out.2 (by have h := HB0.out; exact h.trans HS2.out.1))
                go_wp2_with (first
                  | (at_builtin; refine wpList_append_own_at _ rfl _ _ 54 rfl w.heap.size 3 d3 (.int .i64 0) 1 8 Try.underlying54 I3.out.1 I3.out.2.1 I3.out.2.2.1 I3.out.2.2.2 rfl (by decide) (.slice Ao o.length co) o.length (ordV o) rfl (OW.out.alloc _) ⟨_, 0, none⟩ 1 1 [.int .i64 x] rfl rfl (cell_one_new _ _ _) (by intro u_ hu_; rw [List.mem_singleton] at hu_; subst hu_; rfl) (by have := HN.out; have := oks_len OK.out; unfold maxLen; omega) (by have := HN.out; have := oks_len OK.out; omega) (by have := HB.out.size; simp; omega) ?_; intro v' wa ho_ hg_ _hz_ hn_; have OW2 := Lib.hid (show wa.ownsRow w.heap.size 3 1 v' (o ++ [x.toNat]).length (ordV (o ++ [x.toNat])) by rw [ordV_snoc, List.length_append, show ((x.toNat : Nat) : Int) = x by have := PX.out; omega]; exact ho_); have HB2 := Lib.hid (Below.grown (HB.out.alloc HB.out.size _) hg_ (by have := HB.out.size; simp; omega) (fun k_ e_ => (OW.out.lt k_ e_).1)); clear ho_ hg_ _hz_ hn_)
                  | (fail))
                go_roundw
                case rel => exact ⟨i + 1, by first | rfl | go_num, ⟨by have := PI.out; omega, by have := PI.out; omega⟩, Lib.hid ⟨o ++ [x.toNat], OK2.out, OW2.out, HB2.out⟩⟩
                case measure => have := PI.out; simp [intOf]; omega
        · rw [q1] at m2
          subst q2
          have Q2 := Lib.hid q1
          clear q1 HQ
          go_wp2_with ((fail))
          clear kr m2 m9 u1 u2 u3 u4 u5 u6 u7 u8 u9 hr0
          go_loop [8, 9] (fun v8 v9 => ∃ j : Int, v9 = .int .i64 j ∧ (0 ≤ j ∧ j ≤ (o.length : Int)) ∧ v8 = .bool (((rd_T39 l x).f6 == -1) || seenB o j x.toNat)) (fun _ v9 => ((o.length : Int) - intOf v9).toNat)
          case atStart => exact ⟨0, rfl, ⟨by omega, by omega⟩, by simp [seenB]⟩
          case round =>
            obtain ⟨j, rfl, ⟨j0, j1⟩, rfl⟩ := hrel
            by_cases hj : j < (o.length : Int)
            · have e1 : decide (j < (o.length : Int)) = true := decide_eq_true hj
              obtain ⟨g, cap, eg, kg⟩ := ord_cell OW.out j0 hj
              injection eg with eg1 eg2 eg3
              subst eg1 eg3
              have PJ := Lib.hid (show 0 ≤ j ∧ j < (o.length : Int) from ⟨j0, hj⟩)
              have pJ := eq_true j0
              have qJ := eq_true hj
              have wj : wrap64 (j + 1) = j + 1 := by have h2 := HN.out; have h3 := oks_len OK.out; unfold wrap64; omega
              have wj2 : IntKind.i64.wrap (j + 1) = j + 1 := (i64_w _).trans wj
              have HSN := Lib.hid (seen_succ (k := x.toNat) j0 hj)
              obtain ⟨y, hy⟩ : ∃ y, o.getD j.toNat 0 = y := ⟨_, rfl⟩
              rw [hy] at kg HSN
              have HY := Lib.hid (show ((y : Int) == x) = (y == x.toNat) by
                rw [Bool.eq_iff_iff]
                simp only [beq_iff_eq]
                have := PX.out
                omega)
              obtain ⟨s, hs⟩ : ∃ s, (((rd_T39 l x).f6 == -1) || seenB o j x.toNat) = s := ⟨_, rfl⟩
              replace HSN := Lib.hid (show (((rd_T39 l x).f6 == -1) || seenB o (j + 1) x.toNat) = (s || (y == x.toNat)) by rw [HSN.out, ← hs, Bool.or_assoc])
              rw [hs]
              clear j0 j1 hj hy hs
              cases s with
              | true =>
                go_wp2_with ((fail))
                go_round
                case rel => exact ⟨j + 1, by first | rfl | go_num, ⟨by have := PJ.out; omega, by have := PJ.out; omega⟩, by rw [HSN.out]; rfl⟩
                case measure => have := PJ.out; simp [intOf]; omega
              | false =>
                go_wp2_with ((fail))
                go_round
                case rel => exact ⟨j + 1, by first | rfl | go_num, ⟨by have := PJ.out; omega, by have := PJ.out; omega⟩, by rw [HSN.out, ← HY.out]; simp⟩
                case measure => have := PJ.out; simp [intOf]; omega
            · have e1 : decide (j < (o.length : Int)) = false := decide_eq_false hj
              have ej : j = (o.length : Int) := by omega
              subst ej
              have HSA := Lib.hid (seen_all o x.toNat)
              obtain ⟨s, hs⟩ : ∃ s, (((rd_T39 l x).f6 == -1) || seenB o (o.length : Int) x.toNat) = s := ⟨_, rfl⟩
              have HS := Lib.hid (show (((rd_T39 l x).f6 == -1) || o.contains x.toNat) = s by rw [← hs, HSA.out])
              rw [hs]
              clear j0 j1 hj hs
              cases s with
              | true =>
                go_wp2_with ((fail))
                go_roundw
                case rel => exact ⟨i + 1, by first | rfl | go_num, ⟨by have := PI.out; omega, by have := PI.out; omega⟩, Lib.hid ⟨o, OK.out, OW.out, HB.out⟩⟩
                case measure => have := PI.out; simp [intOf]; omega
              | false =>
                have HS2 := Lib.hid (Bool.or_eq_false_iff.mp HS.out)
                have OK2 := Lib.hid (oks_snoc OK.out PX.out.2.2 HS2.out.2 (by have h := HB0.out; exact h.trans HS2.out.1))
                go_wp2_with (first
                  | (at_builtin; refine wpList_append_own_at _ rfl _ _ 54 rfl w.heap.size 3 d3 (.int .i64 0) 1 8 Try.underlying54 I3.out.1 I3.out.2.1 I3.out.2.2.1 I3.out.2.2.2 rfl (by decide) (.slice Ao o.length co) o.length (ordV o) rfl (OW.out.alloc _) ⟨_, 0, none⟩ 1 1 [.int .i64 x] rfl rfl (cell_one_new _ _ _) (by intro u_ hu_; rw [List.mem_singleton] at hu_; subst hu_; rfl) (by have := HN.out; have := oks_len OK.out; unfold maxLen; omega) (by have := HN.out; have := oks_len OK.out; omega) (by have := HB.out.size; simp; omega) ?_; intro v' wa ho_ hg_ _hz_ hn_; have OW2 := Lib.hid (show wa.ownsRow w.heap.size 3 1 v' (o ++ [x.toNat]).length (ordV (o ++ [x.toNat])) by rw [ordV_snoc, List.length_append, show ((x.toNat : Nat) : Int) = x by have := PX.out; omega]; exact ho_); have HB2 := Lib.hid (Below.grown (HB.out.alloc HB.out.size _) hg_ (by have := HB.out.size; simp; omega) (fun k_ e_ => (OW.out.lt k_ e_).1)); clear ho_ hg_ _hz_ hn_)
                  | (fail))
                go_roundw
                case rel => exact ⟨i + 1, by first | rfl | go_num, ⟨by have := PI.out; omega, by have := PI.out; omega⟩, Lib.hid ⟨o ++ [x.toNat], OK2.out, OW2.out, HB2.out⟩⟩
                case measure => have := PI.out; simp [intOf]; omega
      · have c2 : decide ((0 : Int) < (l.length : Int)) = false := by rw [decide_eq_false_iff_not]; omega
        have c3 : decide (0 < l.length) = false := by rw [decide_eq_false_iff_not]; exact hl0
        clear hl0
        go_wp2
        go_ret
        obtain ⟨o, hok, hown, hbl⟩ := HO.out
        exact ⟨_, o, rfl, hok, hown, hbl⟩
    · have hnl : decide (i < (raw.length : Int)) = false := decide_eq_false hlt
      go_wp2
      go_ret
      obtain ⟨o, hok, hown, hbl⟩ := HO.out
      exact ⟨_, o, rfl, hok, hown, hbl⟩
end Go.Proofs.Ytbakmkoppieelaa.PLinearChecks

/- What is proved: the law LinearFinds returns true. -/
import Derived.Test.YtbakmkoppieelaaLOrd
namespace Go.Proofs.Ytbakmkoppieelaa.PLinearChecks
open Go.RowKit Go.Proofs.YtbakmkoppieelaaW.PrintWords Go.Proofs.YtbakmkoppieelaaW.PrintLast Go.Proofs.YtbakmkoppieelaaW.PrintMore
set_option linter.unusedVariables false
set_option linter.unusedSimpArgs false
theorem ord_use {w : World} {l : List S39} {e : Ending} {w' : World} (h : OrdTo w l e w') : ∃ o A c, e = .returned (.slice A o.length c) ∧ Oks l o ∧ o.length ≤ c ∧ Kd.C (Kd.int .i64) w' A (o.map Int.ofNat).length (o.map Int.ofNat) ∧ Below w.heap.size w w' := by
  unfold OrdTo at h
  obtain ⟨v, o, rfl, h1, h2, h3⟩ := h
  obtain ⟨A, c, rfl, hc, hC⟩ := ints_C h2
  exact ⟨o, A, c, rfl, h1, hc, hC, h3⟩
theorem src_list {w : World} {l : List S39} {r : List Nat} {n : Int} (h1 : srcF l = some r) (h2 : srcE l = n) {e : Ending} {w' : World} (h : SrcTo w l e w') : ∃ A c, e = .returned (.tuple #[.slice A r.length c, .bool true, .int .i64 n]) ∧ r.length ≤ c ∧ Kd.C (Kd.int .i64) w' A (r.map Int.ofNat).length (r.map Int.ofNat) ∧ Below w.heap.size w w' := by
  unfold SrcTo at h
  rw [h1, h2] at h
  obtain ⟨v, rfl, h3, h4⟩ := h
  obtain ⟨A, c, rfl, hc, hC⟩ := ints_C h3
  exact ⟨A, c, rfl, hc, hC, h4⟩
theorem hld_use {w : World} {l : List S39} {o : List Nat} {a b : Int} (h1 : hldA l (o.map Int.ofNat) = (a, b)) {e : Ending} {w' : World} (h : HldTo w l (o.map Int.ofNat) e w') : e = .returned (.tuple #[.int .i64 a, .int .i64 b]) ∧ Below w.heap.size w w' := by
  unfold HldTo at h
  rw [h1] at h
  exact h
theorem holds_ints (w : World) (A Ax : Option Addr) (c cx : Nat) (l : List S39) (o : List Nat) (hr : Kd.C k39 w A l.length l) (hc : l.length ≤ c) (hx : Kd.C (Kd.int .i64) w Ax (o.map Int.ofNat).length (o.map Int.ofNat)) (hcx : o.length ≤ cx) (hn : l.length ≤ 10) (hnx : o.length ≤ 10) (hwf : ∀ x ∈ l, wfC x) (hks : ∀ i : Int, 0 ≤ i → i < l.length → (rd_T39 l i).f3.size ≤ maxLen) :
    Calls Try.prog 36 #[.slice A l.length c, .slice Ax o.length cx] w fun e w' => HldTo w l (o.map Int.ofNat) e w' := by
  have h := holds_any w A Ax c cx l (o.map Int.ofNat) hr hc hx (by rw [List.length_map]; exact hcx) (by omega) (by rw [List.length_map]; omega) hwf hks
  rw [List.length_map] at h
  exact h
set_option maxRecDepth 100000 in
set_option maxHeartbeats 32000000 in
theorem finds_walk (w : World) (A Ar : Option Addr) (c cr : Nat) (l : List S39) (raw : List Int) (hr : Kd.C k39 w A l.length l) (hc : l.length ≤ c) (hx : Kd.C (Kd.int .u64) w Ar raw.length raw) (hcr : raw.length ≤ cr) (hn : l.length * 168 ≤ 140737488351232) (hnr : raw.length ≤ 100000000000000) (hw : ∀ r ∈ raw, 0 ≤ r) (hwf : ∀ x ∈ l, wfC x) (hks : ∀ x ∈ l, x.f3.size ≤ maxLen) :
    Calls Try.prog 11 #[.slice A l.length c, .slice Ar raw.length cr] w fun e w' => e = .returned (.bool true) ∧ Below w.heap.size w w' := by
  obtain ⟨h, hh⟩ : ∃ h, h = l.take 10 := ⟨_, rfl⟩
  have SH := Lib.hid (short_any w A c l h hh hr hc (by omega))
  have HCH := Lib.hid (take_C hh hr)
  have HL := Lib.hid (show h.length ≤ 10 ∧ h.length ≤ c by rw [hh, List.length_take]; omega)
  have HWF := Lib.hid (show ∀ x ∈ h, wfC x from fun x hx => hwf x (by rw [hh] at hx; exact List.mem_of_mem_take hx))
  have HKS := Lib.hid (show ∀ x ∈ h, x.f3.size ≤ maxLen from fun x hx => hks x (by rw [hh] at hx; exact List.mem_of_mem_take hx))
  have HX := Lib.hid hx
  have HCR := Lib.hid (And.intro hcr hnr)
  have HWR := Lib.hid hw
  clear hh hr hc hn hwf hks hx hcr hnr hw
  have HB := Lib.hid (Below.refl w.heap.size w)
  have CHK := Lib.hid (fun W r (hW : Below w.heap.size w W) (e : refF h = r) => linear_Check.calls A c h r W (Kd.C_below HCH.out hW) HL.out.2 (by unfold linear_Check.f; rw [if_pos ⟨by have := HL.out.1; omega, HWF.out⟩, e]))
  rcases ref_two h with he | he
  · have CH := Lib.hid (fun W hW => CHK.out W 0 hW he)
    have HE := Lib.hid he
    have E1 := Lib.hid (show srcE h = 0 by unfold srcE; rw [if_pos he, if_pos HL.out.1])
    clear he
    cases hs : srcF h with
    | some r =>
      have B1 := Lib.hid hs
      have OWN := Lib.hid (finds_own HL.out.1 HE.out hs)
      clear hs
      go_enter Try.func11, Try.ntmps11
      go_upto_region 11 with (first
        | (go_at_call 35; (with_reducible refine SH.out.mono ?_); rintro e_ W_ ⟨rfl, rfl⟩)
        | (go_at_call 32; (with_reducible refine (awake_any _).mono ?_); rintro e_ W_ ⟨rfl, hb⟩; replace HB := Lib.hid (below_step HB.out hb); clear hb)
        | (go_at_call 16; (with_reducible refine (CH.out _ HB.out).mono ?_); rintro e_ W_ ⟨rfl, hb⟩; replace HB := Lib.hid (below_step HB.out hb); clear hb)
        | (go_at_call 33; (with_reducible refine (search_any _ A c h (Kd.C_below HCH.out HB.out) HL.out.2 (by have := HL.out.1; omega) HWF.out (ks_of HKS.out)).mono ?_); rintro e_ W_ h4; obtain ⟨A4, c4, rfl, hc4, hC4, hb4⟩ := src_list B1.out E1.out h4; have HC4 := Lib.hid hc4; have C4 := Lib.hid hC4; replace HB := Lib.hid (below_step HB.out hb4); clear h4 hc4 hC4 hb4)
        | (go_at_call 38; (with_reducible refine (orders_any _ A Ar c cr h raw (Kd.C_below HCH.out HB.out) HL.out.2 (Kd.C_below HX.out HB.out) HCR.out.1 HL.out.1 HCR.out.2 HWR.out).mono ?_); rintro e_ W_ h5; obtain ⟨o, A5, c5, rfl, hok, hc5, hC5, hb5⟩ := ord_use h5; have OK := Lib.hid hok; have HC5 := Lib.hid hc5; have C5 := Lib.hid hC5; replace C4 := Lib.hid (Kd.C_below C4.out hb5); replace HB := Lib.hid (below_step HB.out hb5); obtain ⟨a6, hq⟩ : ∃ q, RowKit.Hid (hldA h (o.map Int.ofNat) = q) := ⟨_, Lib.hid rfl⟩; obtain ⟨a6, b6⟩ := a6; clear h5 hok hc5 hC5 hb5)
        | (go_at_call 36; (with_reducible refine (holds_ints _ A A5 c c5 h o (Kd.C_below HCH.out HB.out) HL.out.2 C5.out HC5.out HL.out.1 (Nat.le_trans (oks_len OK.out) HL.out.1) HWF.out (ks_of HKS.out)).mono ?_); rintro e_ W_ h6; obtain ⟨rfl, hb6⟩ := hld_use hq.out h6; replace C4 := Lib.hid (Kd.C_below C4.out hb6); replace HB := Lib.hid (below_step HB.out hb6); clear h6 hb6)
        | (fail))
      have FL := finds_law HL.out.1 HE.out OK.out
      rw [hq.out] at FL
      obtain ⟨f1, f2, f3, f4⟩ := FL
      have d1 : decide (a6 < 0) = false := decide_eq_false (by have h : 0 ≤ a6 := f2; omega)
      have d2 : decide ((o.length : Int) < a6) = false := decide_eq_false (by have h : a6 ≤ (o.length : Int) := f3; omega)
      have d3 : decide (a6 > (o.length : Int)) = false := decide_eq_false (by have h : a6 ≤ (o.length : Int) := f3; omega)
      have HF1 := Lib.hid f1
      clear f1 f2 f3 f4
      cases hb : (b6 == 0)
      all_goals
        go_wp2_with (first
          | (go_at_call 36; (with_reducible refine (holds_ints _ A A4 c c4 h r (Kd.C_below HCH.out HB.out) HL.out.2 C4.out HC4.out HL.out.1 OWN.out.2 HWF.out (ks_of HKS.out)).mono ?_); rintro e_ W_ h7; obtain ⟨rfl, hb7⟩ := hld_use OWN.out.1 h7; replace HB := Lib.hid (below_step HB.out hb7); clear h7 hb7)
          | (fail))
        go_ret
        exact ⟨by first | rfl | simp, HB.out⟩
    | none =>
      have B1 := Lib.hid (show (srcF h).isSome = false by rw [hs]; rfl)
      clear hs
      go_enter Try.func11, Try.ntmps11
      go_upto_region 11 with (first
        | (go_at_call 35; (with_reducible refine SH.out.mono ?_); rintro e_ W_ ⟨rfl, rfl⟩)
        | (go_at_call 32; (with_reducible refine (awake_any _).mono ?_); rintro e_ W_ ⟨rfl, hb⟩; replace HB := Lib.hid (below_step HB.out hb); clear hb)
        | (go_at_call 16; (with_reducible refine (CH.out _ HB.out).mono ?_); rintro e_ W_ ⟨rfl, hb⟩; replace HB := Lib.hid (below_step HB.out hb); clear hb)
        | (go_at_call 33; (with_reducible refine (search_any _ A c h (Kd.C_below HCH.out HB.out) HL.out.2 (by have := HL.out.1; omega) HWF.out (ks_of HKS.out)).mono ?_); rintro e_ W_ h4; obtain ⟨v4, rfl, ho4, hb4⟩ := src_bool B1.out E1.out h4; replace HB := Lib.hid (below_step HB.out hb4); clear h4 ho4 hb4)
        | (go_at_call 38; (with_reducible refine (orders_any _ A Ar c cr h raw (Kd.C_below HCH.out HB.out) HL.out.2 (Kd.C_below HX.out HB.out) HCR.out.1 HL.out.1 HCR.out.2 HWR.out).mono ?_); rintro e_ W_ h5; obtain ⟨o, A5, c5, rfl, hok, hc5, hC5, hb5⟩ := ord_use h5; have OK := Lib.hid hok; have HC5 := Lib.hid hc5; have C5 := Lib.hid hC5; replace HB := Lib.hid (below_step HB.out hb5); obtain ⟨a6, hq⟩ : ∃ q, RowKit.Hid (hldA h (o.map Int.ofNat) = q) := ⟨_, Lib.hid rfl⟩; obtain ⟨a6, b6⟩ := a6; clear h5 hok hc5 hC5 hb5)
        | (go_at_call 36; (with_reducible refine (holds_ints _ A A5 c c5 h o (Kd.C_below HCH.out HB.out) HL.out.2 C5.out HC5.out HL.out.1 (Nat.le_trans (oks_len OK.out) HL.out.1) HWF.out (ks_of HKS.out)).mono ?_); rintro e_ W_ h6; obtain ⟨rfl, hb6⟩ := hld_use hq.out h6; replace HB := Lib.hid (below_step HB.out hb6); clear h6 hb6)
        | (fail))
      have FL := finds_law HL.out.1 HE.out OK.out
      rw [hq.out] at FL
      obtain ⟨f1, f2, f3, f4⟩ := FL
      have d1 : decide (a6 < 0) = false := decide_eq_false (by have h : 0 ≤ a6 := f2; omega)
      have d2 : decide ((o.length : Int) < a6) = false := decide_eq_false (by have h : a6 ≤ (o.length : Int) := f3; omega)
      have d3 : decide (a6 > (o.length : Int)) = false := decide_eq_false (by have h : a6 ≤ (o.length : Int) := f3; omega)
      have hb6 : b6 = 262 := by
        rcases f1 with e | e
        · have h9 := f4 e
          rw [B1.out] at h9
          cases h9
        · exact e
      subst hb6
      clear f1 f2 f3 f4
      go_wp2
      go_ret
      exact ⟨by first | rfl | simp, HB.out⟩
  · have CH := Lib.hid (fun W hW => CHK.out W 260 hW he)
    clear he
    go_enter Try.func11, Try.ntmps11
    go_wp2_with (first
      | (go_at_call 35; (with_reducible refine SH.out.mono ?_); rintro e_ W_ ⟨rfl, rfl⟩)
      | (go_at_call 32; (with_reducible refine (awake_any _).mono ?_); rintro e_ W_ ⟨rfl, hb⟩; replace HB := Lib.hid (below_step HB.out hb); clear hb)
      | (go_at_call 16; (with_reducible refine (CH.out _ HB.out).mono ?_); rintro e_ W_ ⟨rfl, hb⟩; replace HB := Lib.hid (below_step HB.out hb); clear hb)
      | (fail))
    go_ret
    exact ⟨by first | rfl | simp, HB.out⟩
end Go.Proofs.Ytbakmkoppieelaa.PLinearChecks

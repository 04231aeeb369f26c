/- What is proved: the law LinearSoFar returns true. -/
import Derived.Test.YtbakmkoppieelaaLCut
import Derived.Test.YtbakmkoppieelaaLSeaC
namespace Go.Proofs.Ytbakmkoppieelaa.PLinearChecks
open Go.RowKit Go.Proofs.YtbakmkoppieelaaW.PrintWords Go.Proofs.YtbakmkoppieelaaW.PrintLast Go.Proofs.YtbakmkoppieelaaW.PrintMore
set_option linter.unusedVariables false
set_option linter.unusedSimpArgs false
theorem src_bool {w : World} {l : List S39} {b : Bool} {n : Int} (h1 : (srcF l).isSome = b) (h2 : srcE l = n) {e : Ending} {w' : World} (h : SrcTo w l e w') : ∃ v, e = .returned (.tuple #[v, .bool b, .int .i64 n]) ∧ w'.ownsRow w.heap.size 3 1 v ((srcF l).getD []).length (ordV ((srcF l).getD [])) ∧ Below w.heap.size w w' := by
  unfold SrcTo at h
  rw [h1, h2] at h
  exact h
theorem cut_use {w : World} {l k : List S39} {row n : Int} (h1 : cutLL l row = k) (h2 : cutEE l row = n) {e : Ending} {w' : World} (h : CutTo w l row e w') : ∃ v, e = .returned (.tuple #[v, .int .i64 n]) ∧ Kd.R k39 39 w' w.heap.size (fun _ => True) v k ∧ Below w.heap.size w w' := by
  unfold CutTo at h
  rw [h1, h2] at h
  exact h
theorem take_C {w : World} {A : Option Addr} {l h : List S39} (hh : h = l.take 10) (hr : Kd.C k39 w A l.length l) : Kd.C k39 w A h.length h := by
  subst hh
  by_cases e : 10 ≤ l.length
  · exact Kd.C_take hr e
  · rw [List.take_of_length_le (by omega)]
    exact hr
theorem ok_of {l : List S39} (h : refF l = 0) : okTo l l.length := by
  unfold refF at h
  split at h
  · assumption
  · exact absurd h (by decide)
set_option maxRecDepth 100000 in
theorem short_any (w : World) (A : Option Addr) (c : Nat) (l h : List S39) (hh : h = l.take 10) (hr : Kd.C k39 w A l.length l) (hc : l.length ≤ c) (hn : l.length ≤ 1000000000000) :
    Calls Try.prog 35 #[.slice A l.length c] w fun e w' => e = .returned (.slice A h.length c) ∧ w' = w := by
  by_cases h1 : 10 < l.length
  · have e : h.length = 10 := by rw [hh, List.length_take]; omega
    obtain ⟨ad, eA, _⟩ := row39 hr 0 (by omega) (by omega)
    subst eA
    have c1 : decide ((10 : Int) < (l.length : Int)) = true := by rw [decide_eq_true_eq]; omega
    have c2 : decide (10 < l.length) = true := by rw [decide_eq_true_eq]; omega
    have q1 : (10 : Int) ≤ (c : Int) := by omega
    have HE := Lib.hid e
    clear e hr hh h1
    go_enter Try.func35, Try.ntmps35
    go_wp2
    go_ret
    exact ⟨by rw [HE.out]; rfl, rfl⟩
  · have e : h.length = l.length := by rw [hh, List.length_take]; omega
    have c1 : decide ((10 : Int) < (l.length : Int)) = false := by rw [decide_eq_false_iff_not]; omega
    have c2 : decide (10 < l.length) = false := by rw [decide_eq_false_iff_not]; omega
    have HE := Lib.hid e
    clear e hr hh h1
    go_enter Try.func35, Try.ntmps35
    go_wp2
    go_ret
    exact ⟨by rw [HE.out]; rfl, rfl⟩
theorem cut_wf {row : Int} {l : List S39} (h : ∀ x ∈ l, wfC x) : ∀ x ∈ cutT row l, wfC x := by
  induction l with
  | nil => intro x hx; cases hx
  | cons c t ih =>
    intro x hx
    rw [cutT] at hx
    split at hx
    · cases hx
    · rcases List.mem_cons.mp hx with e | e
      · subst e
        have h1 := h c (by simp)
        unfold cutC
        split
        · exact ⟨h1.1, rfl⟩
        · exact h1
      · exact ih (fun y hy => h y (by simp [hy])) x e
theorem ks_of {l : List S39} (h : ∀ x ∈ l, x.f3.size ≤ maxLen) : ∀ i : Int, 0 ≤ i → i < l.length → (rd_T39 l i).f3.size ≤ maxLen := fun i h0 h1 => h _ (rd_mem h0 h1)
theorem cut_ks {row : Int} {l : List S39} (h : ∀ x ∈ l, x.f3.size ≤ maxLen) : ∀ x ∈ cutT row l, x.f3.size ≤ maxLen := by
  induction l with
  | nil => intro x hx; cases hx
  | cons c t ih =>
    intro x hx
    rw [cutT] at hx
    split at hx
    · cases hx
    · rcases List.mem_cons.mp hx with e | e
      · subst e
        rw [(cutC_f row c).2.1]
        exact h c (by simp)
      · exact ih (fun y hy => h y (by simp [hy])) x e
set_option maxRecDepth 100000 in
set_option maxHeartbeats 16000000 in
theorem sofar_walk (w : World) (A : Option Addr) (c : Nat) (l : List S39) (row : Int) (hr : Kd.C k39 w A l.length l) (hc : l.length ≤ c) (hn : l.length * 168 ≤ 140737488351232) (hwf : ∀ x ∈ l, wfC x) (hks : ∀ x ∈ l, x.f3.size ≤ maxLen) :
    Calls Try.prog 9 #[.slice A l.length c, .int .i64 row] w fun e w' => e = .returned (.bool true) ∧ Below w.heap.size w w' := by
  obtain ⟨h, hh⟩ : ∃ h, h = l.take 10 := ⟨_, rfl⟩
  have SH := Lib.hid (short_any w A c l h hh hr hc (by omega))
  have HCH := Lib.hid (take_C hh hr)
  have HL := Lib.hid (show h.length ≤ 10 ∧ h.length ≤ c by rw [hh, List.length_take]; omega)
  have HWF := Lib.hid (show ∀ x ∈ h, wfC x from fun x hx => hwf x (by rw [hh] at hx; exact List.mem_of_mem_take hx))
  have HKS := Lib.hid (show ∀ x ∈ h, x.f3.size ≤ maxLen from fun x hx => hks x (by rw [hh] at hx; exact List.mem_of_mem_take hx))
  clear hh hr hc hn hwf hks
  have HB := Lib.hid (Below.refl w.heap.size w)
  have CHK := Lib.hid (fun W r (hW : Below w.heap.size w W) (e : refF h = r) => linear_Check.calls A c h r W (Kd.C_below HCH.out hW) HL.out.2 (by unfold linear_Check.f; rw [if_pos ⟨by have := HL.out.1; omega, HWF.out⟩, e]))
  rcases ref_two h with he | he
  · by_cases hrow : row < 0
    · have CH := Lib.hid (fun W hW => CHK.out W 0 hW he)
      have r1 : decide (row < 0) = true := decide_eq_true hrow
      clear he hrow
      go_enter Try.func9, Try.ntmps9
      go_wp2_with (first
        | (go_at_call 35; (with_reducible refine SH.out.mono ?_); rintro e_ W_ ⟨rfl, rfl⟩)
        | (go_at_call 32; (with_reducible refine (awake_any _).mono ?_); rintro e_ W_ ⟨rfl, hb⟩; replace HB := Lib.hid (below_step HB.out hb); clear hb)
        | (go_at_call 16; (with_reducible refine (CH.out _ HB.out).mono ?_); rintro e_ W_ ⟨rfl, hb⟩; replace HB := Lib.hid (below_step HB.out hb); clear hb)
        | (fail))
      go_ret
      exact ⟨by first | rfl | simp, HB.out⟩
    · have CH := Lib.hid (fun W hW => CHK.out W 0 hW he)
      have r1 : decide (row < 0) = false := decide_eq_false hrow
      have OK := Lib.hid (ok_of he)
      have OKC := Lib.hid (refF_ok (ok_cut OK.out (row := row) (by omega)))
      have CUT := Lib.hid (And.intro (show cutLL h row = cutT row h by unfold cutLL; rw [if_pos he, if_neg hrow]) (show cutEE h row = 0 by unfold cutEE; rw [if_pos he, if_neg hrow]))
      have LC := Lib.hid (Nat.le_trans (cutT_le row h) HL.out.1)
      have E1 := Lib.hid (show srcE h = 0 by unfold srcE; rw [if_pos he, if_pos HL.out.1])
      have E2 := Lib.hid (show srcE (cutT row h) = 0 by unfold srcE; rw [if_pos OKC.out, if_pos LC.out])
      have IMP := Lib.hid (show (srcF h).isSome = true → (srcF (cutT row h)).isSome = true by
        intro q
        rw [show srcF h = goF h 10 [] zK from if_pos ⟨he, HL.out.1⟩] at q
        rw [show srcF (cutT row h) = goF (cutT row h) 10 [] zK from if_pos ⟨OKC.out, LC.out⟩]
        exact sofar_go OK.out (by omega) (by have := HL.out.1; omega) (by decide) (Nat.le_refl _) q)
      obtain ⟨b2, hb2⟩ : ∃ b, (srcF (cutT row h)).isSome = b := ⟨_, rfl⟩
      cases hb1 : (srcF h).isSome with
      | true =>
        have hb3 : b2 = true := hb2 ▸ IMP.out hb1
        subst hb3
        have B1 := Lib.hid hb1
        have B2 := Lib.hid hb2
        clear hb1 hb2 he hrow
        go_enter Try.func9, Try.ntmps9
        go_wp2_with (first
          | (go_at_call 35; (with_reducible refine SH.out.mono ?_); rintro e_ W_ ⟨rfl, rfl⟩)
          | (go_at_call 32; (with_reducible refine (awake_any _).mono ?_); rintro e_ W_ ⟨rfl, hb⟩; replace HB := Lib.hid (below_step HB.out hb); clear hb)
          | (go_at_call 16; (with_reducible refine (CH.out _ HB.out).mono ?_); rintro e_ W_ ⟨rfl, hb⟩; replace HB := Lib.hid (below_step HB.out hb); clear hb)
          | (go_at_call 33; (with_reducible refine (search_any _ A c h (Kd.C_below HCH.out HB.out) HL.out.2 (by have := HL.out.1; omega) HWF.out (ks_of HKS.out)).mono ?_); rintro e_ W_ h4; obtain ⟨v4, rfl, ho4, hb4⟩ := src_bool B1.out E1.out h4; replace HB := Lib.hid (below_step HB.out hb4); clear h4 ho4 hb4)
          | (go_at_call 22; (with_reducible refine (cut_any _ A c h row (Kd.C_below HCH.out HB.out) HL.out.2 (by have := HL.out.1; omega) HWF.out).mono ?_); rintro e_ W_ h5; obtain ⟨v5, rfl, hR, hb⟩ := cut_use CUT.out.1 CUT.out.2 h5; obtain ⟨A5, c5, rfl, hc5, hC5⟩ := Kd.R_reads hR; have C5 := Lib.hid hC5; have HC5 := Lib.hid hc5; replace HB := Lib.hid (below_step HB.out hb); clear h5 hb hR hC5 hc5)
          | (go_at_call 33; (with_reducible refine (search_any _ A5 c5 (cutT row h) C5.out HC5.out (by have := LC.out; omega) (cut_wf HWF.out) (ks_of (cut_ks HKS.out))).mono ?_); rintro e_ W_ h6; obtain ⟨v6, rfl, ho6, hb6⟩ := src_bool B2.out E2.out h6; replace HB := Lib.hid (below_step HB.out hb6); clear h6 ho6 hb6)
          | (fail))
        go_ret
        exact ⟨by first | rfl | simp, HB.out⟩
      | false =>
        have B1 := Lib.hid hb1
        have B2 := Lib.hid hb2
        clear hb1 hb2 he hrow
        go_enter Try.func9, Try.ntmps9
        go_wp2_with (first
          | (go_at_call 35; (with_reducible refine SH.out.mono ?_); rintro e_ W_ ⟨rfl, rfl⟩)
          | (go_at_call 32; (with_reducible refine (awake_any _).mono ?_); rintro e_ W_ ⟨rfl, hb⟩; replace HB := Lib.hid (below_step HB.out hb); clear hb)
          | (go_at_call 16; (with_reducible refine (CH.out _ HB.out).mono ?_); rintro e_ W_ ⟨rfl, hb⟩; replace HB := Lib.hid (below_step HB.out hb); clear hb)
          | (go_at_call 33; (with_reducible refine (search_any _ A c h (Kd.C_below HCH.out HB.out) HL.out.2 (by have := HL.out.1; omega) HWF.out (ks_of HKS.out)).mono ?_); rintro e_ W_ h4; obtain ⟨v4, rfl, ho4, hb4⟩ := src_bool B1.out E1.out h4; replace HB := Lib.hid (below_step HB.out hb4); clear h4 ho4 hb4)
          | (go_at_call 22; (with_reducible refine (cut_any _ A c h row (Kd.C_below HCH.out HB.out) HL.out.2 (by have := HL.out.1; omega) HWF.out).mono ?_); rintro e_ W_ h5; obtain ⟨v5, rfl, hR, hb⟩ := cut_use CUT.out.1 CUT.out.2 h5; obtain ⟨A5, c5, rfl, hc5, hC5⟩ := Kd.R_reads hR; have C5 := Lib.hid hC5; have HC5 := Lib.hid hc5; replace HB := Lib.hid (below_step HB.out hb); clear h5 hb hR hC5 hc5)
          | (go_at_call 33; (with_reducible refine (search_any _ A5 c5 (cutT row h) C5.out HC5.out (by have := LC.out; omega) (cut_wf HWF.out) (ks_of (cut_ks HKS.out))).mono ?_); rintro e_ W_ h6; obtain ⟨v6, rfl, ho6, hb6⟩ := src_bool B2.out E2.out h6; replace HB := Lib.hid (below_step HB.out hb6); clear h6 ho6 hb6)
          | (fail))
        go_ret
        exact ⟨by first | rfl | simp, HB.out⟩
  · have CH := Lib.hid (fun W hW => CHK.out W 260 hW he)
    clear he
    go_enter Try.func9, Try.ntmps9
    go_wp2_with (first
      | (go_at_call 35; (with_reducible refine SH.out.mono ?_); rintro e_ W_ ⟨rfl, rfl⟩)
      | (go_at_call 32; (with_reducible refine (awake_any _).mono ?_); rintro e_ W_ ⟨rfl, hb⟩; replace HB := Lib.hid (below_step HB.out hb); clear hb)
      | (go_at_call 16; (with_reducible refine (CH.out _ HB.out).mono ?_); rintro e_ W_ ⟨rfl, hb⟩; replace HB := Lib.hid (below_step HB.out hb); clear hb)
      | (fail))
    go_ret
    exact ⟨by first | rfl | simp, HB.out⟩
end Go.Proofs.Ytbakmkoppieelaa.PLinearChecks

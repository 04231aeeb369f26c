/- What is proved: the law LinearCuts returns true. -/
import Derived.Test.YtbakmkoppieelaaLRct
namespace Go.Proofs.Ytbakmkoppieelaa.PLinearChecks
open Go.RowKit Go.Proofs.YtbakmkoppieelaaW.PrintWords Go.Proofs.YtbakmkoppieelaaW.PrintLast Go.Proofs.YtbakmkoppieelaaW.PrintMore
set_option linter.unusedVariables false
set_option linter.unusedSimpArgs false
theorem rcut_use {w : World} {l k : List S39} {row n : Int} (h1 : rcutLL l row = k) (h2 : rcutEE l row = n) {e : Ending} {w' : World} (h : RCutTo w l row e w') : ∃ v, e = .returned (.tuple #[v, .int .i64 n]) ∧ Kd.R k39 39 w' w.heap.size (fun _ => True) v k ∧ Below w.heap.size w w' := by
  unfold RCutTo at h
  rw [h1, h2] at h
  exact h
theorem cut_pair (l : List S39) (row : Int) : rcutLL l row = cutLL l row ∧ rcutEE l row = cutEE l row := by
  unfold rcutLL cutLL rcutEE cutEE
  refine ⟨?_, rfl⟩
  by_cases he : refF l = 0
  · rw [if_pos he, if_pos he, cut_both row l (ok_lt (ok_of he))]
  · rw [if_neg he, if_neg he]
theorem cutLL_len (l : List S39) (row : Int) : (cutLL l row).length ≤ l.length := by
  unfold cutLL
  split
  · split
    · exact Nat.zero_le _
    · exact cutT_le row l
  · exact Nat.zero_le _
theorem keyL_len (s : ByteArray) (l : List S39) : (keyL s l).length ≤ l.length := List.length_filter_le _ _
theorem cm_two {W : World} {A : Option Addr} {l : List S39} (h : Kd.C k39 W A (l.length + marks.length) (l ++ marks)) : Kd.C k39 W A (l.length + 2) (l ++ marks) := h
theorem own_cut : cutLL [ownC] 1 = [cutC 1 ownC] ∧ cutEE [ownC] 1 = 0 := by
  unfold cutLL cutEE
  rw [if_pos own_ok, if_neg (by decide), if_pos own_ok, if_neg (by decide)]
  exact ⟨rfl, rfl⟩
set_option maxHeartbeats 64000000 in
set_option maxRecDepth 100000 in
theorem cuts_walk (RCHK : ∀ (A : Option Addr) (c : Nat) (l : List S39) (W : World), Kd.C k39 W A l.length l → l.length ≤ c → l.length ≤ 1000000000000 → Calls Try.prog 17 #[.slice A l.length c] W fun e w' => e = .returned (.int .i64 (refF l)) ∧ Below W.heap.size W w') (w : World) (A : Option Addr) (c : Nat) (l : List S39) (row : Int) (key : ByteArray) (hr : Kd.C k39 w A l.length l) (hc : l.length ≤ c) (hn : l.length * 168 ≤ 140737488351232) (hwf : ∀ x ∈ l, wfC x) :
    Calls Try.prog 4 #[.slice A l.length c, .int .i64 row, .string key] w fun e w' => e = .returned (.bool true) ∧ Below w.heap.size w w' := by
  have hu39 := Try.underlying39
  have HN := Lib.hid (show l.length ≤ 1000000000000 ∧ (l.length + 2) * 168 ≤ 140737488355328 ∧ l.length * 168 ≤ 140737488351232 by omega)
  have HF := Lib.hid hwf
  have HC := Lib.hid hc
  have RM := Lib.hid (roomy w A c l hr hc HN.out.2.1)
  have CA := Lib.hid hr
  have HB := Lib.hid (Below.refl w.heap.size w)
  obtain ⟨gl, hgl⟩ : ∃ q, RowKit.Hid (cutLL l row = q) := ⟨_, Lib.hid rfl⟩
  obtain ⟨ge, hge⟩ : ∃ q, RowKit.Hid (cutEE l row = q) := ⟨_, Lib.hid rfl⟩
  obtain ⟨kl, hkl⟩ : ∃ q, RowKit.Hid (keyL key l = q) := ⟨_, Lib.hid rfl⟩
  have hgl2 := Lib.hid ((cut_pair l row).1.trans hgl.out)
  have hge2 := Lib.hid ((cut_pair l row).2.trans hge.out)
  have OWN := Lib.hid (fun W => hawserlaw26_own.calls [ownC] W rfl)
  have RC := Lib.hid RCHK
  have CUTO := Lib.hid (fun W A c (hC : Kd.C k39 W A 1 [ownC]) (h1 : 1 ≤ c) => (show Calls Try.prog 22 #[.slice A 1 c, .int .i64 1] W (fun e w' => CutTo W [ownC] 1 e w') from cut_any W A c [ownC] 1 hC h1 (by decide) own_wf))
  have GN := Lib.hid (show gl.length ≤ 1000000000000 by rw [← hgl.out]; have := cutLL_len l row; have := HN.out.1; omega)
  have KN := Lib.hid (show kl.length ≤ 1000000000000 by rw [← hkl.out]; have := keyL_len key l; have := HN.out.1; omega)
  clear hr hn hwf hc RCHK
  go_enter Try.func4, Try.ntmps4
  go_wp2_with (first
    | (go_at_call 14; (with_reducible refine RM.out.mono ?_); rintro e_ W_ ⟨A', c', rfl, hc1, hR, hb⟩; have CM := Lib.hid (Kd.R_reads' hR).2.2; have HM := Lib.hid hc1; replace CA := Lib.hid (Kd.C_below CA.out hb); replace HB := Lib.hid (below_step HB.out hb); clear hb hc1 hR)
    | (go_at_call 22; (with_reducible refine (cut_any _ A' c' l row (by have h := Kd.C_take CM.out (m := l.length) (by rw [List.length_append]; omega); rw [List.take_left' rfl] at h; exact h) (by have := HM.out; omega) HN.out.2.2 HF.out).mono ?_); rintro e_ W_ h_; obtain ⟨v_, rfl, hR, hb⟩ := cut_use hgl.out hge.out h_; obtain ⟨Ag, cg, rfl, hcg, CG_⟩ := Kd.R_reads hR; have CG := Lib.hid CG_; have Hcg := Lib.hid hcg; clear hcg CG_; replace CA := Lib.hid (Kd.C_below CA.out hb); replace CM := Lib.hid (Kd.C_below CM.out hb); replace HB := Lib.hid (below_step HB.out hb); clear hb hR h_)
    | (go_at_call 23; (with_reducible refine (rcut_any RC.out _ A c l row CA.out HC.out HN.out.2.2).mono ?_); rintro e_ W_ h_; obtain ⟨v_, rfl, hR, hb⟩ := rcut_use hgl2.out hge2.out h_; obtain ⟨Ah, ch, rfl, hch, CH_⟩ := Kd.R_reads hR; have CH := Lib.hid CH_; have Hch := Lib.hid hch; clear hch CH_; replace CA := Lib.hid (Kd.C_below CA.out hb); replace CM := Lib.hid (Kd.C_below CM.out hb); replace CG := Lib.hid (Kd.C_below CG.out hb); replace HB := Lib.hid (below_step HB.out hb); clear hb hR h_)
    | (go_at_call 21; (with_reducible refine (OWN.out _).mono ?_); rintro e_ W_ ⟨v_, rfl, hR, hb⟩; obtain ⟨Ao, co, rfl, hco, CO_⟩ := Kd.R_reads hR; have CO := Lib.hid (show Kd.C k39 _ Ao 1 [ownC] from CO_); have Hco := Lib.hid (show 1 ≤ co from hco); clear hco CO_; replace CA := Lib.hid (Kd.C_below CA.out hb); replace CM := Lib.hid (Kd.C_below CM.out hb); replace CG := Lib.hid (Kd.C_below CG.out hb); replace CH := Lib.hid (Kd.C_below CH.out hb); replace HB := Lib.hid (below_step HB.out hb); clear hb hR)
    | (go_at_call 22; (with_reducible refine (CUTO.out _ Ao co CO.out Hco.out).mono ?_); rintro e_ W_ h_; obtain ⟨v_, rfl, hR, hb⟩ := cut_use own_cut.1 own_cut.2 h_; obtain ⟨Ap, cp, rfl, hcp, CP_⟩ := Kd.R_reads hR; have CP := Lib.hid (show Kd.C k39 _ Ap 1 [cutC 1 ownC] from CP_); clear hcp CP_; replace CA := Lib.hid (Kd.C_below CA.out hb); replace CM := Lib.hid (Kd.C_below CM.out hb); replace CG := Lib.hid (Kd.C_below CG.out hb); replace CH := Lib.hid (Kd.C_below CH.out hb); replace HB := Lib.hid (below_step HB.out hb); clear hb hR h_)
    | (go_at_call 24; (with_reducible refine (key_any _ A' c' l key (by have h := Kd.C_take CM.out (m := l.length) (by rw [List.length_append]; omega); rw [List.take_left' rfl] at h; exact h) (by have := HM.out; omega) HN.out.2.2).mono ?_); rintro e_ W_ ⟨v_, rfl, hR, hb⟩; rw [hkl.out] at hR; obtain ⟨Ak, ck, rfl, hck, CK_⟩ := Kd.R_reads hR; have CK := Lib.hid CK_; have Hck := Lib.hid hck; clear hck CK_; replace CA := Lib.hid (Kd.C_below CA.out hb); replace CM := Lib.hid (Kd.C_below CM.out hb); replace CG := Lib.hid (Kd.C_below CG.out hb); replace CH := Lib.hid (Kd.C_below CH.out hb); replace CP := Lib.hid (Kd.C_below CP.out hb); replace HB := Lib.hid (below_step HB.out hb); clear hb hR)
    | (go_at_call 25; (with_reducible refine (hawserlaw26_sameCalls.calls (2 * gl.length + 2) Ag cg gl Ah ch gl true _ CG.out Hcg.out CH.out Hch.out (same_refl gl GN.out)).mono ?_); rintro e_ W_ ⟨rfl, hd⟩; have hb := hd.below; clear hd; replace CA := Lib.hid (Kd.C_below CA.out hb); replace CM := Lib.hid (Kd.C_below CM.out hb); replace CP := Lib.hid (Kd.C_below CP.out hb); replace CK := Lib.hid (Kd.C_below CK.out hb); replace HB := Lib.hid (below_step HB.out hb); clear hb)
    | (go_at_call 15; (with_reducible refine (hawserlaw26_num.calls ge ge _ rfl).mono ?_); rintro e_ W_ ⟨rfl, hd⟩; have hb := hd.below; clear hd; replace CA := Lib.hid (Kd.C_below CA.out hb); replace CM := Lib.hid (Kd.C_below CM.out hb); replace CP := Lib.hid (Kd.C_below CP.out hb); replace CK := Lib.hid (Kd.C_below CK.out hb); replace HB := Lib.hid (below_step HB.out hb); clear hb)
    | (go_at_call 26; (with_reducible refine (rkey_any _ A c l key CA.out HC.out HN.out.2.2).mono ?_); rintro e_ W_ ⟨v_, rfl, hR, hb⟩; rw [hkl.out] at hR; obtain ⟨Aq, cq, rfl, hcq, CQ_⟩ := Kd.R_reads hR; have CQ := Lib.hid CQ_; have Hcq := Lib.hid hcq; clear hcq CQ_; replace CA := Lib.hid (Kd.C_below CA.out hb); replace CM := Lib.hid (Kd.C_below CM.out hb); replace CP := Lib.hid (Kd.C_below CP.out hb); replace CK := Lib.hid (Kd.C_below CK.out hb); replace HB := Lib.hid (below_step HB.out hb); clear hb hR)
    | (go_at_call 25; (with_reducible refine (hawserlaw26_sameCalls.calls (2 * kl.length + 2) Ak ck kl Aq cq kl true _ CK.out Hck.out CQ.out Hcq.out (same_refl kl KN.out)).mono ?_); rintro e_ W_ ⟨rfl, hd⟩; have hb := hd.below; clear hd; replace CA := Lib.hid (Kd.C_below CA.out hb); replace CM := Lib.hid (Kd.C_below CM.out hb); replace CP := Lib.hid (Kd.C_below CP.out hb); replace HB := Lib.hid (below_step HB.out hb); clear hb)
    | (go_at_call 18; have CK2 := CM.out; rw [List.length_append] at CK2; have CK3 := cm_two CK2; (with_reducible refine (kept _ A' A c' c l CK3 HM.out CA.out HC.out HN.out.1).mono ?_); rintro e_ W_ ⟨rfl, hb⟩; obtain ⟨ad, eA, m0, m1, m2, m3, m4, m5, m6, m7, m8, m9, m10, m11, m12, m13, m14, m15⟩ := at_T39 (Kd.C_below CP.out hb) 0 (by decide) (by decide); cases eA; clear m0 m1 m2 m3 m4 m5 m6 m7 m8 m10 m11 m12 m13 m14 m15; replace m9 : W_.cell? ⟨(ad.add 0).block, (ad.add 0).off + 9, none⟩ = some (.int .i64 (-1)) := m9; replace m9 : W_.cell? ⟨ad.block, ad.off + 9, none⟩ = some (.int .i64 (-1)) := (by simpa [Addr.add] using m9); replace HB := Lib.hid (below_step HB.out hb); clear hb)
    | (fail))
  go_ret
  exact ⟨by first | rfl | simp, HB.out⟩
theorem cuts_all (w : World) (A : Option Addr) (c : Nat) (l : List S39) (row : Int) (key : ByteArray) (hr : Kd.C k39 w A l.length l) (hc : l.length ≤ c) (hn : l.length * 168 ≤ 140737488351232) (hwf : ∀ x ∈ l, wfC x) :
    Calls Try.prog 4 #[.slice A l.length c, .int .i64 row, .string key] w fun e w' => e = .returned (.bool true) ∧ Below w.heap.size w w' :=
  cuts_walk (fun A c l W h1 h2 h3 => rcheck_any W A c l h1 h2 (by omega)) w A c l row key hr hc hn hwf
end Go.Proofs.Ytbakmkoppieelaa.PLinearChecks

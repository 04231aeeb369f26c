/- What is proved: contracts of the functions that the law uses, each under the conditions that its theorem states. Written by a program of this session: texts of the kit's print, and texts by hand for the functions that the print does not take. -/
import Derived.Test.YtmjmjjhfficilaaPSpanMembersx0
import Derived.Test.YtmjmjjhfficilaaPSpanMembersx2
namespace Go.Proofs.Ytmjmjjhfficilaa.PSpanMembers
open Go.RowKit Go.Proofs.YtmjmjjhfficilaaW.PrintWords Go.Proofs.YtmjmjjhfficilaaW.PrintLast Go.Proofs.YtmjmjjhfficilaaW.PrintMore
attribute [local go_sem] max2_int min2_int max_two min_two max_three min_three max_four min_four   -- for this text's walks alone
set_option linter.unusedVariables false
set_option linter.unusedSimpArgs false

/-! ### span_Meet: function 7 -/
set_option maxRecDepth 100000 in
set_option maxHeartbeats 8000000 in
theorem pickM (wn : List UInt8 → Bool) (w : World) (A : Option Addr) (c : Nat) (cuts : List ByteArray) (px py : Option Addr) (hr : Kd.C Kd.string w A cuts.length cuts) (hn : cuts.length ≤ 4294967296)
    (hcl : ∀ (key : ByteArray) (W : World), Below w.heap.size w W → Calls Try.prog 16 #[.string key, .pointer px, .pointer py] W fun e w' => e = .returned (.bool (wn key.toList)) ∧ Below W.heap.size W w') :
    Calls Try.prog 14 #[.slice A cuts.length c, .func (.func 16) #[] #[.pointer px, .pointer py]] w fun e w' => ∃ v, e = .returned v ∧ Kd.R k29 29 w' w.heap.size (fun _ => True) v (pickF wn cuts).1 ∧ Below w.heap.size w w' := by
  obtain ⟨n, hN⟩ : ∃ n, RowKit.Hid (n = cuts.length) := ⟨_, Lib.hid rfl⟩
  have R := Lib.hid (And.intro hr hcl)
  rw [← hN.out] at hn ⊢
  clear hr hcl
  go_enter Try.func14, Try.ntmps14
  go_upto_region 4 with (fail)
  go_loopw [5, 6, 12] (fun ov opv iv wr => ∃ i : Nat, i ≤ n ∧ iv = .int .i64 i ∧ opv = .bool (pickF wn (cuts.take i)).2 ∧ Kd.R k29 29 wr w.heap.size (fun _ => True) ov (pickF wn (cuts.take i)).1 ∧ Below w.heap.size w wr) (fun _ _ iv _ => n - (intOf iv).toNat)
  case atStart => exact ⟨0, by omega, rfl, rfl, Kd.R_nil _ _ _ _ _, Below.refl _ _⟩
  case round =>
    obtain ⟨i, hi, rfl, rfl, hR, hb⟩ := hrel
    have hsz := hb.size
    by_cases hlt : i < n
    · have l16 : (0 : Int) ≤ (i : Int) := by omega
      have u16 : (i : Int) < (n : Int) := by omega
      have hi3 : i < cuts.length := by rw [← hN.out]; exact hlt
      obtain ⟨ad, eA, x0⟩ := Kd.at_string (Kd.C_below R.out.1 hb) (i : Int) l16 (by rw [← hN.out]; exact u16)
      simp only [Int.toNat_natCast] at x0
      have hsucc := pickF_succ wn cuts i hi3
      have hinv := pick_inv wn (cuts.take i) ([], false) (fun h => by cases h)
      obtain ⟨cc, hcc⟩ : ∃ cc, RowKit.Hid (cc = rdOf ByteArray.empty cuts (i : Int)) := ⟨_, Lib.hid rfl⟩
      rw [← hcc.out] at x0 hsucc
      obtain ⟨st, hst⟩ : ∃ st, RowKit.Hid (st = pickF wn (cuts.take i)) := ⟨_, Lib.hid rfl⟩
      have hinv2 : (st.2 = true → st.1 ≠ []) ∧ st.1.length ≤ i := by
        rw [hst.out]; exact ⟨hinv.1, Nat.le_trans hinv.2 (by rw [List.length_take]; simp; omega)⟩
      rw [← hst.out] at hsucc hR ⊢
      obtain ⟨out, op⟩ := st
      have hclo := fun W h => R.out.2 cc W h
      obtain ⟨wv, hwv⟩ : ∃ wv, RowKit.Hid (wv = wn cc.toList) := ⟨_, Lib.hid rfl⟩
      rw [← hwv.out] at hclo
      have hnext : RowKit.Hid (pickF wn (cuts.take (i + 1)) = (if wv = true then (if op = true then out else out ++ [⟨cc, ⟨#[]⟩⟩]) else (if op = true then setLast out cc else out), wv)) := Lib.hid (by rw [hsucc, hwv.out]; rfl)
      have E := Lib.hid hinv2
      have HB := Lib.hid (And.intro hb hsz)
      simp only at hR
      clear hb hsz hinv hinv2 hsucc hst hi3
      replace l16 := eq_true l16
      replace u16 := eq_true u16
      cases eA
      cases wv with
      | true =>
        cases op with
        | true =>
          obtain ⟨Av, cv, rfl, hcv, -⟩ := Kd.R_reads hR
          have F := Lib.hid hR
          clear hR hcv
          go_wp2_with (first
            | (go_at_call 16; (with_reducible refine (hclo _ HB.out.1).mono ?_); rintro e w2 ⟨rfl, hb2⟩; have Hb2 := Lib.hid hb2; clear hb2)
            | (go_at_call 16; (with_reducible refine (hclo _ (HB.out.1.trans (Hb2.out.mono HB.out.2))).mono ?_); rintro e w3 ⟨rfl, hb3⟩; have Hb3 := Lib.hid hb3; clear hb3))
          have b23 : Below wr.heap.size wr w3 := Hb2.out.trans (Hb3.out.mono Hb2.out.size)
          refine ⟨⟨i + 1, by omega, by go_num, by rw [hnext.out], ?_, HB.out.1.trans (b23.mono HB.out.2)⟩, by simp [intOf]; omega⟩
          rw [hnext.out]
          exact Kd.R_below F.out b23
        | false =>
          obtain ⟨Av, cv, rfl, hcv, -⟩ := Kd.R_reads hR
          have F := Lib.hid hR
          obtain ⟨q, hq⟩ : ∃ q, RowKit.Hid (q = out.length) := ⟨_, Lib.hid rfl⟩
          rw [← hq.out]
          clear hR hcv
          go_upto_region 8 with (first
            | (go_at_call 16; (with_reducible refine (hclo _ HB.out.1).mono ?_); rintro e w2 ⟨rfl, hb2⟩; have Hb2 := Lib.hid hb2; clear hb2))
          have R5 : RowKit.Hid (Kd.R k29 29 w2 w.heap.size (fun _ => True) (.slice Av q cv) out) := Lib.hid (by rw [hq.out]; exact Kd.R_below F.out Hb2.out)
          have B5 := Lib.hid (HB.out.1.trans (Hb2.out.mono HB.out.2))
          have S5 := Lib.hid (Nat.le_trans HB.out.2 Hb2.out.size)
          have L5 : RowKit.Hid ((out.length + 1) * 32 ≤ 140737488355328) := Lib.hid (by have h9 : out.length ≤ i := E.out.2; omega)
          go_wp2_with (first
            | (at_builtin; refine Kd.R_append k29 (w0 := w) w.heap.size rfl (.tmp 25) (.tmp 28) 22 29 (.agg #[.string ⟨#[]⟩, .string ⟨#[]⟩]) 32 rfl Try.underlying22 infoR rfl (by decide) (by decide) (.slice Av q cv) out ⟨cc, ⟨#[]⟩⟩ [.string cc, .string ⟨#[]⟩] (fun _ => True) (fun _ => False) rfl rfl (k29_mkM _ _ _ ⟨cc, ⟨#[]⟩⟩) (fun _ h => h.elim) (fun _ _ => trivial) R5.out B5.out S5.out L5.out ?_; intro v6 w6 hown6 hb6 hg6 hat6; have Hb6 := Lib.hid hb6; have Hw6 := Lib.hid hown6; clear hb6 hown6 hg6 hat6)
            | (go_at_call 16; (with_reducible refine (hclo _ Hb6.out).mono ?_); rintro e w3 ⟨rfl, hb3⟩; have Hb3 := Lib.hid hb3; clear hb3))
          refine ⟨⟨i + 1, by omega, by go_num, by rw [hnext.out], ?_, Hb6.out.trans (Hb3.out.mono Hb6.out.size)⟩, by simp [intOf]; omega⟩
          rw [hnext.out]
          exact Kd.R_below Hw6.out Hb3.out
      | false =>
        cases op with
        | true =>
          rcases List.eq_nil_or_concat out with rfl | ⟨o', lst, hcc2⟩
          · exact absurd rfl (E.out.1 rfl)
          · rw [List.concat_eq_append] at hcc2
            subst hcc2
            obtain ⟨go, co, cur, rfl, hgo, hlt2, hco, hh, e0, e1, hset⟩ := last_row hR
            have hnx : RowKit.Hid ((pickF wn (cuts.take (i + 1))) = (o' ++ [⟨lst.f0, cc⟩], false)) := Lib.hid (by rw [hnext.out]; simp [setLast_snoc])
            have hkn : o'.length + 1 ≤ 4294967296 := by (have h9 : (o' ++ [lst]).length ≤ i := E.out.2); rw [List.length_append] at h9; simp at h9; omega
            obtain ⟨k, hk⟩ : ∃ k, RowKit.Hid (k = o'.length) := ⟨_, Lib.hid rfl⟩
            rw [← hk.out] at hco hset hkn e0 e1 ⊢
            have k0 : (0 : Int) ≤ (k : Int) := by omega
            have k1 : (k : Int) < ((k + 1 : Nat) : Int) := by omega
            have o1 : wr.cell? ⟨go, k * 2 + 1, none⟩ = some (.string lst.f1) := (cell_of_row wr go (k * 2 + 1) _ _ _ hh).trans e1
            have fo := frozen_of_row wr go (k * 2 + 1) _ _ hh
            have ha : (⟨go, 0, none⟩ : Addr).add (k * 2) = ⟨go, k * 2, none⟩ := by rw [Addr.add_lit, Nat.zero_add]
            have F := Lib.hid (And.intro hgo (And.intro hlt2 (And.intro hh hset)))
            obtain ⟨m, hm2⟩ : ∃ m, RowKit.Hid (m = k + 1) := ⟨_, Lib.hid rfl⟩
            have kw : IntKind.i64.wrap ((m : Int) - 1) = (k : Int) := by rw [show (m : Int) - 1 = (k : Int) by have := hm2.out; omega]; exact IntWalk.i64_in _ (by omega)
            have kw2 : wrap64 ((m : Int) - 1) = (k : Int) := by rw [show (m : Int) - 1 = (k : Int) by have := hm2.out; omega]; exact IntWalk.wrap64_in _ (by omega)
            rw [← hm2.out] at k1 hco
            rw [show Value.slice (some ⟨go, 0, none⟩) (k + 1) co = Value.slice (some ⟨go, 0, none⟩) m co by rw [hm2.out]]
            replace k0 := eq_true k0
            replace k1 := eq_true k1
            clear hR hgo hh e0 e1 hset hkn hco hlt2
            go_upto_region 10 with (first
              | (go_at_call 16; (with_reducible refine (hclo _ HB.out.1).mono ?_); rintro e w2 ⟨rfl, hb2⟩; have Hb2 := Lib.hid hb2; clear hb2))
            have hh2 : RowKit.Hid (w2.heap[go]? = some (.cells cur 29 (0, 0))) := Lib.hid ((Hb2.out.block go F.out.2.1).trans F.out.2.2.1)
            have o2 : w2.cell? ⟨go, k * 2 + 1, none⟩ = some (.string lst.f1) := (Hb2.out.cell (show (⟨go, k * 2 + 1, none⟩ : Addr).block < wr.heap.size from F.out.2.1)).trans o1
            have fo2 := frozen_of_row w2 go (k * 2 + 1) _ _ hh2.out
            clear o1 fo
            have B2 : RowKit.Hid (Below w.heap.size w (w2.setCell ⟨go, k * 2 + 1, none⟩ (.string cc))) := Lib.hid ((HB.out.1.trans (Hb2.out.mono HB.out.2)).setCell F.out.1 _)
            go_wp2_with (first
              | (go_at_call 16; (with_reducible refine (hclo _ B2.out).mono ?_); rintro e w3 ⟨rfl, hb3⟩; have Hb3 := Lib.hid hb3; clear hb3))
            have hR3 : Kd.R k29 29 (w2.setCell ⟨go, k * 2 + 1, none⟩ (.string cc)) w.heap.size (fun _ => True) (.slice (some ⟨go, 0, none⟩) m co) (o' ++ [⟨lst.f0, cc⟩]) := by
              rw [hm2.out]
              exact F.out.2.2.2 _ cc (heap_setCell_same _ go _ _ 29 _ hh2.out)
            refine ⟨⟨i + 1, by omega, by go_num, by rw [hnx.out], ?_, B2.out.trans (Hb3.out.mono B2.out.size)⟩, by simp [intOf]; omega⟩
            rw [hnx.out]
            exact Kd.R_below hR3 Hb3.out
        | false =>
          obtain ⟨Av, cv, rfl, hcv, -⟩ := Kd.R_reads hR
          have F := Lib.hid hR
          clear hR hcv
          go_wp2_with (first
            | (go_at_call 16; (with_reducible refine (hclo _ HB.out.1).mono ?_); rintro e w2 ⟨rfl, hb2⟩; have Hb2 := Lib.hid hb2; clear hb2)
            | (go_at_call 16; (with_reducible refine (hclo _ (HB.out.1.trans (Hb2.out.mono HB.out.2))).mono ?_); rintro e w3 ⟨rfl, hb3⟩; have Hb3 := Lib.hid hb3; clear hb3))
          have b23 : Below wr.heap.size wr w3 := Hb2.out.trans (Hb3.out.mono Hb2.out.size)
          refine ⟨⟨i + 1, by omega, by go_num, by rw [hnext.out], ?_, HB.out.1.trans (b23.mono HB.out.2)⟩, by simp [intOf]; omega⟩
          rw [hnext.out]
          exact Kd.R_below F.out b23
    · obtain rfl : i = n := by omega
      have hlt' : ¬ ((i : Int) < (i : Int)) := by omega
      have hfull : cuts.take i = cuts := List.take_of_length_le (by rw [hN.out]; exact Nat.le_refl _)
      rw [hfull] at hR ⊢
      have F := Lib.hid (And.intro hR hb)
      clear hR hb hfull
      go_wp2
      go_ret
      exact ⟨_, rfl, F.out.1, F.out.2⟩
set_option maxRecDepth 100000 in
set_option maxHeartbeats 8000000 in
theorem clo_M (X Y : List S29) (Ax Ay : Option Addr) (cx cy bx bby : Nat) (key : ByteArray) (W : World) (x0 : W.cell? ⟨bx, 0, none⟩ = some (.slice Ax X.length cx)) (y0 : W.cell? ⟨bby, 0, none⟩ = some (.slice Ay Y.length cy))
    (hX : Kd.C k29 W Ax X.length X) (hY : Kd.C k29 W Ay Y.length Y) (nX : Texts.NF (X.map pR)) (nY : Texts.NF (Y.map pR)) (lX : X.length ≤ 4294967296) (lY : Y.length ≤ 4294967296) :
    Calls Try.prog 16 #[.string key, .pointer (some ⟨bx, 0, none⟩), .pointer (some ⟨bby, 0, none⟩)] W fun e w' => e = .returned (.bool (Texts.hasL (X.map pR) key.toList && Texts.hasL (Y.map pR) key.toList)) ∧ Below W.heap.size W w' := by
  have h1 := holds_nf W Ax cx X key hX lX nX
  have h2 := fun W' (hb : Below W.heap.size W W') => holds_nf W' Ay cy Y key (Kd.C_below hY hb) lY nY
  obtain ⟨p, hp⟩ : ∃ p, RowKit.Hid (p = Texts.hasL (X.map pR) key.toList) := ⟨_, Lib.hid rfl⟩
  obtain ⟨q, hq⟩ : ∃ q, RowKit.Hid (q = Texts.hasL (Y.map pR) key.toList) := ⟨_, Lib.hid rfl⟩
  rw [← hp.out] at h1 ⊢
  rw [← hq.out] at h2 ⊢
  have yl : bby < W.heap.size := World.block_lt_of_cell? W _ y0
  have Y0 := Lib.hid (And.intro y0 yl)
  have y1 : ∀ W', Below W.heap.size W W' → W'.cell? ⟨bby, 0, none⟩ = some (.slice Ay Y.length cy) := fun W' hb => (hb.cell (p := ⟨bby, 0, none⟩) yl).trans y0
  obtain ⟨nx, hnx⟩ : ∃ nx, RowKit.Hid (nx = X.length) := ⟨_, Lib.hid rfl⟩
  obtain ⟨ny, hny⟩ : ∃ ny, RowKit.Hid (ny = Y.length) := ⟨_, Lib.hid rfl⟩
  rw [← hnx.out] at x0 h1
  rw [← hny.out] at y0 y1 h2
  have H2 := Lib.hid (And.intro h2 y1)
  clear hX hY nX nY lX lY y1 h2 yl y0
  cases p with
  | false =>
    go_enter Try.func16, Try.ntmps16
    go_wp2_with (first
      | (go_at_call 17; (with_reducible refine h1.mono ?_); rintro e w2 ⟨rfl, hb2⟩; have Hb2 := Lib.hid hb2; clear hb2))
    go_ret
    exact ⟨rfl, Hb2.out⟩
  | true =>
    go_enter Try.func16, Try.ntmps16
    go_wp2_with (first
      | (go_at_call 17; (with_reducible refine h1.mono ?_); rintro e w2 ⟨rfl, hb2⟩; have Hb2 := Lib.hid hb2; have y2 := H2.out.2 _ hb2; clear hb2)
      | (go_at_call 17; (with_reducible refine (H2.out.1 _ Hb2.out).mono ?_); rintro e w3 ⟨rfl, hb3⟩; have Hb3 := Lib.hid hb3; clear hb3))
    go_ret
    exact ⟨rfl, Hb2.out.trans (Hb3.out.mono Hb2.out.size)⟩
set_option maxRecDepth 100000 in
set_option maxHeartbeats 8000000 in
theorem any_M (w : World) (A B : Option Addr) (c d : Nat) (l m : List S29) (hr : Kd.C k29 w A l.length l) (hc : l.length ≤ c) (hs : Kd.C k29 w B m.length m) (hd : m.length ≤ d) (hl : l.length ≤ 67108864) (hm : m.length ≤ 67108864) :
    Calls Try.prog 7 #[.slice A l.length c, .slice B m.length d] w fun e w' => ∃ v0, e = .returned v0 ∧ Kd.R k29 29 w' w.heap.size (fun _ => True) v0 (meetF l m) ∧ Below w.heap.size w w' := by
  have h1 := merged_any w A c l hr hc (by omega)
  have h2 := fun W' (hb : Below w.heap.size w W') => merged_any W' B d m (Kd.C_below hs hb) hd (by omega)
  have L1 : RowKit.Hid ((mergeF l).length ≤ 67108864) := Lib.hid (Nat.le_trans (mergeF_len l) hl)
  have L2 : RowKit.Hid ((mergeF m).length ≤ 67108864) := Lib.hid (Nat.le_trans (mergeF_len m) hm)
  change Calls _ _ _ _ (fun e w' => ∃ v0, e = .returned v0 ∧ Kd.R k29 29 w' w.heap.size (fun _ => True) v0 (mergeF l) ∧ Below w.heap.size w w') at h1
  have h2' : ∀ W', Below w.heap.size w W' → Calls Try.prog 13 #[.slice B m.length d] W' fun e w' => ∃ v0, e = .returned v0 ∧ Kd.R k29 29 w' W'.heap.size (fun _ => True) v0 (mergeF m) ∧ Below W'.heap.size W' w' := h2
  have N1 : RowKit.Hid (Texts.NF ((mergeF l).map pR)) := Lib.hid (mergeF_nf l)
  have N2 : RowKit.Hid (Texts.NF ((mergeF m).map pR)) := Lib.hid (mergeF_nf m)
  have hout : RowKit.Hid (meetF l m = (pickF (fun k => Texts.hasL ((mergeF l).map pR) k && Texts.hasL ((mergeF m).map pR) k) (cutsF (mergeF l) (mergeF m))).1) := Lib.hid rfl
  obtain ⟨X, hX⟩ : ∃ X, RowKit.Hid (X = mergeF l) := ⟨_, Lib.hid rfl⟩
  obtain ⟨Y, hY⟩ : ∃ Y, RowKit.Hid (Y = mergeF m) := ⟨_, Lib.hid rfl⟩
  rw [hout.out]
  rw [← hX.out] at h1 L1 N1 ⊢
  rw [← hY.out] at h2' L2 N2 ⊢
  have H2 := Lib.hid h2'
  obtain ⟨n1, hn1⟩ : ∃ n1, RowKit.Hid (n1 = l.length) := ⟨_, Lib.hid rfl⟩
  obtain ⟨n2, hn2⟩ : ∃ n2, RowKit.Hid (n2 = m.length) := ⟨_, Lib.hid rfl⟩
  rw [← hn1.out] at h1 ⊢
  rw [← hn2.out] at H2 ⊢
  clear hout h2 h2' hr hs hc hd hl hm
  go_enter Try.func7, Try.ntmps7
  obtain ⟨lx, hlx⟩ : ∃ lx, RowKit.Hid (lx = X.length) := ⟨_, Lib.hid rfl⟩
  obtain ⟨ly, hly⟩ : ∃ ly, RowKit.Hid (ly = Y.length) := ⟨_, Lib.hid rfl⟩
  go_upto_region 2 with (first
    | (go_at_call 13; (with_reducible refine h1.mono ?_); rintro e w2 ⟨v2, rfl, hR2, hb2⟩; obtain ⟨A2, c2, rfl, hc2, hC2⟩ := Kd.R_reads hR2; have F2 := Lib.hid (And.intro hC2 (And.intro hc2 hb2)); rw [← hlx.out]; clear hR2 hb2 hc2 hC2)
    | (go_at_call 13; (with_reducible refine (H2.out _ F2.out.2.2).mono ?_); rintro e w3 ⟨v3, rfl, hR3, hb3⟩; obtain ⟨A3, c3, rfl, hc3, hC3⟩ := Kd.R_reads hR3; have F3 := Lib.hid (And.intro hC3 (And.intro hc3 hb3)); rw [← hly.out]; clear hR3 hb3 hc3 hC3))
  refine abs_m ?_
  intro w4 hw4
  have b34 : RowKit.Hid (Below w3.heap.size w3 w4) := Lib.hid (by rw [hw4]; exact ((Below.refl _ _).alloc (Nat.le_refl _) _).alloc (by rw [World.size_alloc]; omega) _)
  have g0 : w4.heap[w3.heap.size]? = some (.cells #[.slice A2 lx c2] 22 (0, 0)) := by
    rw [hw4]
    exact (((Below.refl _ _).alloc (Nat.le_refl _) _).block _ (by rw [World.size_alloc]; omega)).trans (heap_alloc_new w3 _)
  have g1 : w4.heap[w3.heap.size + 1]? = some (.cells #[.slice A3 ly c3] 22 (0, 0)) := by
    rw [hw4, show w3.heap.size + 1 = (w3.alloc (.cells #[.slice A2 lx c2] 22)).heap.size from (World.size_alloc ..).symm]
    exact heap_alloc_new _ _
  have x0 : w4.cell? ⟨w3.heap.size, 0, none⟩ = some (.slice A2 lx c2) := cell_of_row w4 _ 0 _ _ _ g0
  have x1 : w4.cell? ⟨w3.heap.size + 1, 0, none⟩ = some (.slice A3 ly c3) := cell_of_row w4 _ 0 _ _ _ g1
  have hCX : RowKit.Hid (Kd.C k29 w4 A2 X.length X) := Lib.hid (Kd.C_below (Kd.C_below F2.out.1 F3.out.2.2) b34.out)
  have hCY : RowKit.Hid (Kd.C k29 w4 A3 Y.length Y) := Lib.hid (Kd.C_below F3.out.1 b34.out)
  have b04 : RowKit.Hid (Below w.heap.size w w4) := Lib.hid ((F2.out.2.2.trans (F3.out.2.2.mono F2.out.2.2.size)).trans (b34.out.mono (Nat.le_trans F2.out.2.2.size F3.out.2.2.size)))
  have L := Lib.hid (And.intro x0 x1)
  clear hw4 g0 g1
  obtain ⟨p3, hp3⟩ : ∃ p3, RowKit.Hid (p3 = w3.heap.size) := ⟨_, Lib.hid rfl⟩
  obtain ⟨q3, hq3⟩ : ∃ q3, RowKit.Hid (q3 = w3.heap.size + 1) := ⟨_, Lib.hid rfl⟩
  rw [← hq3.out] at x1 L ⊢
  rw [← hp3.out] at x0 L ⊢
  have hbd : RowKit.Hid (∀ W, W = w4.alloc (.cells #[.slice A2 lx c2, .slice A3 ly c3] 22) → Calls Try.prog 15 #[.slice (some ⟨w4.heap.size, 0, none⟩) 2 2] W (BoundsPost X Y W)) := Lib.hid (by
    rintro W rfl
    have g := heap_alloc_new w4 (.cells #[.slice A2 lx c2, .slice A3 ly c3] 22 (0, 0))
    have ba : Below w4.heap.size w4 (w4.alloc (.cells #[.slice A2 lx c2, .slice A3 ly c3] 22)) := (Below.refl _ _).alloc (Nat.le_refl _) _
    refine bounds2 _ _ _ A2 A3 c2 c3 X Y ?_ ?_ (Kd.C_below hCX.out ba) (Kd.C_below hCY.out ba) L1.out L2.out
    · rw [← hlx.out]; exact cell_of_row _ _ 0 _ _ _ g
    · rw [← hly.out]; exact cell_of_row _ _ 1 _ _ _ g)
  have hpk : RowKit.Hid (∀ W, Below w4.heap.size w4 W → ∀ A6 c6, Kd.C Kd.string W A6 (cutsF X Y).length (cutsF X Y) → Calls Try.prog 14 #[.slice A6 (cutsF X Y).length c6, .func (.func 16) #[] #[.pointer (some ⟨p3, 0, none⟩), .pointer (some ⟨q3, 0, none⟩)]] W fun e w' => ∃ v, e = .returned v ∧ Kd.R k29 29 w' W.heap.size (fun _ => True) v (pickF (fun k => Texts.hasL (X.map pR) k && Texts.hasL (Y.map pR) k) (cutsF X Y)).1 ∧ Below W.heap.size W w') := Lib.hid (by
    intro W hW A6 c6 hC6
    refine pickM _ W A6 c6 (cutsF X Y) _ _ hC6 (by have := (cutsF_ok X Y).2.2; have := L1.out; have := L2.out; omega) ?_
    intro key W7 hb7
    have b47 : Below w4.heap.size w4 W7 := hW.trans (hb7.mono hW.size)
    have xl : p3 < w4.heap.size := World.block_lt_of_cell? w4 _ L.out.1
    have yl : q3 < w4.heap.size := World.block_lt_of_cell? w4 _ L.out.2
    refine clo_M X Y A2 A3 c2 c3 p3 q3 key W7 ?_ ?_ (Kd.C_below hCX.out b47) (Kd.C_below hCY.out b47) N1.out N2.out (by have := L1.out; omega) (by have := L2.out; omega)
    · rw [← hlx.out]; exact (b47.cell (p := ⟨p3, 0, none⟩) xl).trans L.out.1
    · rw [← hly.out]; exact (b47.cell (p := ⟨q3, 0, none⟩) yl).trans L.out.2)
  obtain ⟨cf, hcf⟩ : ∃ cf, RowKit.Hid (cf = cutsF X Y) := ⟨_, Lib.hid rfl⟩
  rw [← hcf.out] at hpk
  have hbd2 : RowKit.Hid (∀ W, W = w4.alloc (.cells #[.slice A2 lx c2, .slice A3 ly c3] 22) → Calls Try.prog 15 #[.slice (some ⟨w4.heap.size, 0, none⟩) 2 2] W fun e w' => ∃ A6 c6, e = .returned (.slice A6 cf.length c6) ∧ Kd.C Kd.string w' A6 cf.length cf ∧ Below w4.heap.size w4 w') := Lib.hid (by
    intro W hW
    refine (hbd.out W hW).mono ?_
    rintro e w' ⟨v, rfl, hR, hb⟩
    rw [← hcf.out] at hR
    obtain ⟨A6, c6, rfl, -, hC⟩ := Kd.R_reads hR
    subst hW
    exact ⟨A6, c6, rfl, hC, ((Below.refl _ _).alloc (Nat.le_refl _) _).trans (hb.mono (by rw [World.size_alloc]; omega))⟩)
  clear hbd
  obtain ⟨lc, hlc⟩ : ∃ lc, RowKit.Hid (lc = cf.length) := ⟨_, Lib.hid rfl⟩
  rw [← hlc.out] at hbd2 hpk
  go_wp2_with (first
    | (go_at_call 15; (with_reducible refine (hbd2.out _ rfl).mono ?_); rintro e w6 ⟨A6, c6, rfl, hC6, hb6⟩; have F6 := Lib.hid (And.intro hC6 hb6); clear hC6 hb6)
    | (go_at_call 14; (with_reducible refine (hpk.out _ F6.out.2 _ _ F6.out.1).mono ?_); rintro e w7 ⟨v7, rfl, hR7, hb7⟩; have F7 := Lib.hid (And.intro hR7 hb7); clear hR7 hb7))
  go_ret
  have f7 := F7.out.1
  rw [hcf.out] at f7
  exact ⟨_, rfl, Kd.R_lower f7 (Nat.le_trans b04.out.size F6.out.2.size), b04.out.trans ((F6.out.2.trans (F7.out.2.mono F6.out.2.size)).mono b04.out.size)⟩
def span_Meet.f (l0 : List (S29)) (l1 : List (S29)) : Option (List (S29)) := if l0.length ≤ 67108864 ∧ l1.length ≤ 67108864 then some (meetF l0 l1) else none
theorem span_Meet.calls (A0 : Option Addr) (c0 : Nat) (l0 : List (S29)) (A1 : Option Addr) (c1 : Nat) (l1 : List (S29)) (r : List (S29)) (w : World) (hr0 : Kd.C k29 w A0 l0.length l0) (hc0 : l0.length ≤ c0) (hr1 : Kd.C k29 w A1 l1.length l1) (hc1 : l1.length ≤ c1) (h : span_Meet.f l0 l1 = some r) :
    Calls Try.prog 7 #[.slice A0 l0.length c0, .slice A1 l1.length c1] w fun e w' => ∃ v0_ : Value, e = .returned (v0_) ∧ Kd.R k29 29 w' w.heap.size (fun _ => True) v0_ r ∧ Below w.heap.size w w' := by
  unfold span_Meet.f at h
  split at h
  · rename_i he
    injection h with h
    subst h
    exact any_M w A0 A1 c0 c1 l0 l1 hr0 hc0 hr1 hc1 he.1 he.2
  · cases h

/-! ### span_Minus: function 8 -/
set_option maxRecDepth 100000 in
set_option maxHeartbeats 8000000 in
theorem pickD (wn : List UInt8 → Bool) (w : World) (A : Option Addr) (c : Nat) (cuts : List ByteArray) (px py : Option Addr) (hr : Kd.C Kd.string w A cuts.length cuts) (hn : cuts.length ≤ 4294967296)
    (hcl : ∀ (key : ByteArray) (W : World), Below w.heap.size w W → Calls Try.prog 18 #[.string key, .pointer px, .pointer py] W fun e w' => e = .returned (.bool (wn key.toList)) ∧ Below W.heap.size W w') :
    Calls Try.prog 14 #[.slice A cuts.length c, .func (.func 18) #[] #[.pointer px, .pointer py]] w fun e w' => ∃ v, e = .returned v ∧ Kd.R k29 29 w' w.heap.size (fun _ => True) v (pickF wn cuts).1 ∧ Below w.heap.size w w' := by
  obtain ⟨n, hN⟩ : ∃ n, RowKit.Hid (n = cuts.length) := ⟨_, Lib.hid rfl⟩
  have R := Lib.hid (And.intro hr hcl)
  rw [← hN.out] at hn ⊢
  clear hr hcl
  go_enter Try.func14, Try.ntmps14
  go_upto_region 4 with (fail)
  go_loopw [5, 6, 12] (fun ov opv iv wr => ∃ i : Nat, i ≤ n ∧ iv = .int .i64 i ∧ opv = .bool (pickF wn (cuts.take i)).2 ∧ Kd.R k29 29 wr w.heap.size (fun _ => True) ov (pickF wn (cuts.take i)).1 ∧ Below w.heap.size w wr) (fun _ _ iv _ => n - (intOf iv).toNat)
  case atStart => exact ⟨0, by omega, rfl, rfl, Kd.R_nil _ _ _ _ _, Below.refl _ _⟩
  case round =>
    obtain ⟨i, hi, rfl, rfl, hR, hb⟩ := hrel
    have hsz := hb.size
    by_cases hlt : i < n
    · have l16 : (0 : Int) ≤ (i : Int) := by omega
      have u16 : (i : Int) < (n : Int) := by omega
      have hi3 : i < cuts.length := by rw [← hN.out]; exact hlt
      obtain ⟨ad, eA, x0⟩ := Kd.at_string (Kd.C_below R.out.1 hb) (i : Int) l16 (by rw [← hN.out]; exact u16)
      simp only [Int.toNat_natCast] at x0
      have hsucc := pickF_succ wn cuts i hi3
      have hinv := pick_inv wn (cuts.take i) ([], false) (fun h => by cases h)
      obtain ⟨cc, hcc⟩ : ∃ cc, RowKit.Hid (cc = rdOf ByteArray.empty cuts (i : Int)) := ⟨_, Lib.hid rfl⟩
      rw [← hcc.out] at x0 hsucc
      obtain ⟨st, hst⟩ : ∃ st, RowKit.Hid (st = pickF wn (cuts.take i)) := ⟨_, Lib.hid rfl⟩
      have hinv2 : (st.2 = true → st.1 ≠ []) ∧ st.1.length ≤ i := by
        rw [hst.out]; exact ⟨hinv.1, Nat.le_trans hinv.2 (by rw [List.length_take]; simp; omega)⟩
      rw [← hst.out] at hsucc hR ⊢
      obtain ⟨out, op⟩ := st
      have hclo := fun W h => R.out.2 cc W h
      obtain ⟨wv, hwv⟩ : ∃ wv, RowKit.Hid (wv = wn cc.toList) := ⟨_, Lib.hid rfl⟩
      rw [← hwv.out] at hclo
      have hnext : RowKit.Hid (pickF wn (cuts.take (i + 1)) = (if wv = true then (if op = true then out else out ++ [⟨cc, ⟨#[]⟩⟩]) else (if op = true then setLast out cc else out), wv)) := Lib.hid (by rw [hsucc, hwv.out]; rfl)
      have E := Lib.hid hinv2
      have HB := Lib.hid (And.intro hb hsz)
      simp only at hR
      clear hb hsz hinv hinv2 hsucc hst hi3
      replace l16 := eq_true l16
      replace u16 := eq_true u16
      cases eA
      cases wv with
      | true =>
        cases op with
        | true =>
          obtain ⟨Av, cv, rfl, hcv, -⟩ := Kd.R_reads hR
          have F := Lib.hid hR
          clear hR hcv
          go_wp2_with (first
            | (go_at_call 18; (with_reducible refine (hclo _ HB.out.1).mono ?_); rintro e w2 ⟨rfl, hb2⟩; have Hb2 := Lib.hid hb2; clear hb2)
            | (go_at_call 18; (with_reducible refine (hclo _ (HB.out.1.trans (Hb2.out.mono HB.out.2))).mono ?_); rintro e w3 ⟨rfl, hb3⟩; have Hb3 := Lib.hid hb3; clear hb3))
          have b23 : Below wr.heap.size wr w3 := Hb2.out.trans (Hb3.out.mono Hb2.out.size)
          refine ⟨⟨i + 1, by omega, by go_num, by rw [hnext.out], ?_, HB.out.1.trans (b23.mono HB.out.2)⟩, by simp [intOf]; omega⟩
          rw [hnext.out]
          exact Kd.R_below F.out b23
        | false =>
          obtain ⟨Av, cv, rfl, hcv, -⟩ := Kd.R_reads hR
          have F := Lib.hid hR
          obtain ⟨q, hq⟩ : ∃ q, RowKit.Hid (q = out.length) := ⟨_, Lib.hid rfl⟩
          rw [← hq.out]
          clear hR hcv
          go_upto_region 8 with (first
            | (go_at_call 18; (with_reducible refine (hclo _ HB.out.1).mono ?_); rintro e w2 ⟨rfl, hb2⟩; have Hb2 := Lib.hid hb2; clear hb2))
          have R5 : RowKit.Hid (Kd.R k29 29 w2 w.heap.size (fun _ => True) (.slice Av q cv) out) := Lib.hid (by rw [hq.out]; exact Kd.R_below F.out Hb2.out)
          have B5 := Lib.hid (HB.out.1.trans (Hb2.out.mono HB.out.2))
          have S5 := Lib.hid (Nat.le_trans HB.out.2 Hb2.out.size)
          have L5 : RowKit.Hid ((out.length + 1) * 32 ≤ 140737488355328) := Lib.hid (by have h9 : out.length ≤ i := E.out.2; omega)
          go_wp2_with (first
            | (at_builtin; refine Kd.R_append k29 (w0 := w) w.heap.size rfl (.tmp 25) (.tmp 28) 22 29 (.agg #[.string ⟨#[]⟩, .string ⟨#[]⟩]) 32 rfl Try.underlying22 infoR rfl (by decide) (by decide) (.slice Av q cv) out ⟨cc, ⟨#[]⟩⟩ [.string cc, .string ⟨#[]⟩] (fun _ => True) (fun _ => False) rfl rfl (k29_mkM _ _ _ ⟨cc, ⟨#[]⟩⟩) (fun _ h => h.elim) (fun _ _ => trivial) R5.out B5.out S5.out L5.out ?_; intro v6 w6 hown6 hb6 hg6 hat6; have Hb6 := Lib.hid hb6; have Hw6 := Lib.hid hown6; clear hb6 hown6 hg6 hat6)
            | (go_at_call 18; (with_reducible refine (hclo _ Hb6.out).mono ?_); rintro e w3 ⟨rfl, hb3⟩; have Hb3 := Lib.hid hb3; clear hb3))
          refine ⟨⟨i + 1, by omega, by go_num, by rw [hnext.out], ?_, Hb6.out.trans (Hb3.out.mono Hb6.out.size)⟩, by simp [intOf]; omega⟩
          rw [hnext.out]
          exact Kd.R_below Hw6.out Hb3.out
      | false =>
        cases op with
        | true =>
          rcases List.eq_nil_or_concat out with rfl | ⟨o', lst, hcc2⟩
          · exact absurd rfl (E.out.1 rfl)
          · rw [List.concat_eq_append] at hcc2
            subst hcc2
            obtain ⟨go, co, cur, rfl, hgo, hlt2, hco, hh, e0, e1, hset⟩ := last_row hR
            have hnx : RowKit.Hid ((pickF wn (cuts.take (i + 1))) = (o' ++ [⟨lst.f0, cc⟩], false)) := Lib.hid (by rw [hnext.out]; simp [setLast_snoc])
            have hkn : o'.length + 1 ≤ 4294967296 := by (have h9 : (o' ++ [lst]).length ≤ i := E.out.2); rw [List.length_append] at h9; simp at h9; omega
            obtain ⟨k, hk⟩ : ∃ k, RowKit.Hid (k = o'.length) := ⟨_, Lib.hid rfl⟩
            rw [← hk.out] at hco hset hkn e0 e1 ⊢
            have k0 : (0 : Int) ≤ (k : Int) := by omega
            have k1 : (k : Int) < ((k + 1 : Nat) : Int) := by omega
            have o1 : wr.cell? ⟨go, k * 2 + 1, none⟩ = some (.string lst.f1) := (cell_of_row wr go (k * 2 + 1) _ _ _ hh).trans e1
            have fo := frozen_of_row wr go (k * 2 + 1) _ _ hh
            have ha : (⟨go, 0, none⟩ : Addr).add (k * 2) = ⟨go, k * 2, none⟩ := by rw [Addr.add_lit, Nat.zero_add]
            have F := Lib.hid (And.intro hgo (And.intro hlt2 (And.intro hh hset)))
            obtain ⟨m, hm2⟩ : ∃ m, RowKit.Hid (m = k + 1) := ⟨_, Lib.hid rfl⟩
            have kw : IntKind.i64.wrap ((m : Int) - 1) = (k : Int) := by rw [show (m : Int) - 1 = (k : Int) by have := hm2.out; omega]; exact IntWalk.i64_in _ (by omega)
            have kw2 : wrap64 ((m : Int) - 1) = (k : Int) := by rw [show (m : Int) - 1 = (k : Int) by have := hm2.out; omega]; exact IntWalk.wrap64_in _ (by omega)
            rw [← hm2.out] at k1 hco
            rw [show Value.slice (some ⟨go, 0, none⟩) (k + 1) co = Value.slice (some ⟨go, 0, none⟩) m co by rw [hm2.out]]
            replace k0 := eq_true k0
            replace k1 := eq_true k1
            clear hR hgo hh e0 e1 hset hkn hco hlt2
            go_upto_region 10 with (first
              | (go_at_call 18; (with_reducible refine (hclo _ HB.out.1).mono ?_); rintro e w2 ⟨rfl, hb2⟩; have Hb2 := Lib.hid hb2; clear hb2))
            have hh2 : RowKit.Hid (w2.heap[go]? = some (.cells cur 29 (0, 0))) := Lib.hid ((Hb2.out.block go F.out.2.1).trans F.out.2.2.1)
            have o2 : w2.cell? ⟨go, k * 2 + 1, none⟩ = some (.string lst.f1) := (Hb2.out.cell (show (⟨go, k * 2 + 1, none⟩ : Addr).block < wr.heap.size from F.out.2.1)).trans o1
            have fo2 := frozen_of_row w2 go (k * 2 + 1) _ _ hh2.out
            clear o1 fo
            have B2 : RowKit.Hid (Below w.heap.size w (w2.setCell ⟨go, k * 2 + 1, none⟩ (.string cc))) := Lib.hid ((HB.out.1.trans (Hb2.out.mono HB.out.2)).setCell F.out.1 _)
            go_wp2_with (first
              | (go_at_call 18; (with_reducible refine (hclo _ B2.out).mono ?_); rintro e w3 ⟨rfl, hb3⟩; have Hb3 := Lib.hid hb3; clear hb3))
            have hR3 : Kd.R k29 29 (w2.setCell ⟨go, k * 2 + 1, none⟩ (.string cc)) w.heap.size (fun _ => True) (.slice (some ⟨go, 0, none⟩) m co) (o' ++ [⟨lst.f0, cc⟩]) := by
              rw [hm2.out]
              exact F.out.2.2.2 _ cc (heap_setCell_same _ go _ _ 29 _ hh2.out)
            refine ⟨⟨i + 1, by omega, by go_num, by rw [hnx.out], ?_, B2.out.trans (Hb3.out.mono B2.out.size)⟩, by simp [intOf]; omega⟩
            rw [hnx.out]
            exact Kd.R_below hR3 Hb3.out
        | false =>
          obtain ⟨Av, cv, rfl, hcv, -⟩ := Kd.R_reads hR
          have F := Lib.hid hR
          clear hR hcv
          go_wp2_with (first
            | (go_at_call 18; (with_reducible refine (hclo _ HB.out.1).mono ?_); rintro e w2 ⟨rfl, hb2⟩; have Hb2 := Lib.hid hb2; clear hb2)
            | (go_at_call 18; (with_reducible refine (hclo _ (HB.out.1.trans (Hb2.out.mono HB.out.2))).mono ?_); rintro e w3 ⟨rfl, hb3⟩; have Hb3 := Lib.hid hb3; clear hb3))
          have b23 : Below wr.heap.size wr w3 := Hb2.out.trans (Hb3.out.mono Hb2.out.size)
          refine ⟨⟨i + 1, by omega, by go_num, by rw [hnext.out], ?_, HB.out.1.trans (b23.mono HB.out.2)⟩, by simp [intOf]; omega⟩
          rw [hnext.out]
          exact Kd.R_below F.out b23
    · obtain rfl : i = n := by omega
      have hlt' : ¬ ((i : Int) < (i : Int)) := by omega
      have hfull : cuts.take i = cuts := List.take_of_length_le (by rw [hN.out]; exact Nat.le_refl _)
      rw [hfull] at hR ⊢
      have F := Lib.hid (And.intro hR hb)
      clear hR hb hfull
      go_wp2
      go_ret
      exact ⟨_, rfl, F.out.1, F.out.2⟩
set_option maxRecDepth 100000 in
set_option maxHeartbeats 8000000 in
theorem clo_D (X Y : List S29) (Ax Ay : Option Addr) (cx cy bx bby : Nat) (key : ByteArray) (W : World) (x0 : W.cell? ⟨bx, 0, none⟩ = some (.slice Ax X.length cx)) (y0 : W.cell? ⟨bby, 0, none⟩ = some (.slice Ay Y.length cy))
    (hX : Kd.C k29 W Ax X.length X) (hY : Kd.C k29 W Ay Y.length Y) (nX : Texts.NF (X.map pR)) (nY : Texts.NF (Y.map pR)) (lX : X.length ≤ 4294967296) (lY : Y.length ≤ 4294967296) :
    Calls Try.prog 18 #[.string key, .pointer (some ⟨bx, 0, none⟩), .pointer (some ⟨bby, 0, none⟩)] W fun e w' => e = .returned (.bool (Texts.hasL (X.map pR) key.toList && !Texts.hasL (Y.map pR) key.toList)) ∧ Below W.heap.size W w' := by
  have h1 := holds_nf W Ax cx X key hX lX nX
  have h2 := fun W' (hb : Below W.heap.size W W') => holds_nf W' Ay cy Y key (Kd.C_below hY hb) lY nY
  obtain ⟨p, hp⟩ : ∃ p, RowKit.Hid (p = Texts.hasL (X.map pR) key.toList) := ⟨_, Lib.hid rfl⟩
  obtain ⟨q, hq⟩ : ∃ q, RowKit.Hid (q = Texts.hasL (Y.map pR) key.toList) := ⟨_, Lib.hid rfl⟩
  rw [← hp.out] at h1 ⊢
  rw [← hq.out] at h2 ⊢
  have yl : bby < W.heap.size := World.block_lt_of_cell? W _ y0
  have Y0 := Lib.hid (And.intro y0 yl)
  have y1 : ∀ W', Below W.heap.size W W' → W'.cell? ⟨bby, 0, none⟩ = some (.slice Ay Y.length cy) := fun W' hb => (hb.cell (p := ⟨bby, 0, none⟩) yl).trans y0
  obtain ⟨nx, hnx⟩ : ∃ nx, RowKit.Hid (nx = X.length) := ⟨_, Lib.hid rfl⟩
  obtain ⟨ny, hny⟩ : ∃ ny, RowKit.Hid (ny = Y.length) := ⟨_, Lib.hid rfl⟩
  rw [← hnx.out] at x0 h1
  rw [← hny.out] at y0 y1 h2
  have H2 := Lib.hid (And.intro h2 y1)
  clear hX hY nX nY lX lY y1 h2 yl y0
  cases p with
  | false =>
    go_enter Try.func18, Try.ntmps18
    go_wp2_with (first
      | (go_at_call 17; (with_reducible refine h1.mono ?_); rintro e w2 ⟨rfl, hb2⟩; have Hb2 := Lib.hid hb2; clear hb2))
    go_ret
    exact ⟨rfl, Hb2.out⟩
  | true =>
    go_enter Try.func18, Try.ntmps18
    go_wp2_with (first
      | (go_at_call 17; (with_reducible refine h1.mono ?_); rintro e w2 ⟨rfl, hb2⟩; have Hb2 := Lib.hid hb2; have y2 := H2.out.2 _ hb2; clear hb2)
      | (go_at_call 17; (with_reducible refine (H2.out.1 _ Hb2.out).mono ?_); rintro e w3 ⟨rfl, hb3⟩; have Hb3 := Lib.hid hb3; clear hb3))
    go_ret
    exact ⟨rfl, Hb2.out.trans (Hb3.out.mono Hb2.out.size)⟩
set_option maxRecDepth 100000 in
set_option maxHeartbeats 8000000 in
theorem any_D (w : World) (A B : Option Addr) (c d : Nat) (l m : List S29) (hr : Kd.C k29 w A l.length l) (hc : l.length ≤ c) (hs : Kd.C k29 w B m.length m) (hd : m.length ≤ d) (hl : l.length ≤ 67108864) (hm : m.length ≤ 67108864) :
    Calls Try.prog 8 #[.slice A l.length c, .slice B m.length d] w fun e w' => ∃ v0, e = .returned v0 ∧ Kd.R k29 29 w' w.heap.size (fun _ => True) v0 (minusF l m) ∧ Below w.heap.size w w' := by
  have h1 := merged_any w A c l hr hc (by omega)
  have h2 := fun W' (hb : Below w.heap.size w W') => merged_any W' B d m (Kd.C_below hs hb) hd (by omega)
  have L1 : RowKit.Hid ((mergeF l).length ≤ 67108864) := Lib.hid (Nat.le_trans (mergeF_len l) hl)
  have L2 : RowKit.Hid ((mergeF m).length ≤ 67108864) := Lib.hid (Nat.le_trans (mergeF_len m) hm)
  change Calls _ _ _ _ (fun e w' => ∃ v0, e = .returned v0 ∧ Kd.R k29 29 w' w.heap.size (fun _ => True) v0 (mergeF l) ∧ Below w.heap.size w w') at h1
  have h2' : ∀ W', Below w.heap.size w W' → Calls Try.prog 13 #[.slice B m.length d] W' fun e w' => ∃ v0, e = .returned v0 ∧ Kd.R k29 29 w' W'.heap.size (fun _ => True) v0 (mergeF m) ∧ Below W'.heap.size W' w' := h2
  have N1 : RowKit.Hid (Texts.NF ((mergeF l).map pR)) := Lib.hid (mergeF_nf l)
  have N2 : RowKit.Hid (Texts.NF ((mergeF m).map pR)) := Lib.hid (mergeF_nf m)
  have hout : RowKit.Hid (minusF l m = (pickF (fun k => Texts.hasL ((mergeF l).map pR) k && !Texts.hasL ((mergeF m).map pR) k) (cutsF (mergeF l) (mergeF m))).1) := Lib.hid rfl
  obtain ⟨X, hX⟩ : ∃ X, RowKit.Hid (X = mergeF l) := ⟨_, Lib.hid rfl⟩
  obtain ⟨Y, hY⟩ : ∃ Y, RowKit.Hid (Y = mergeF m) := ⟨_, Lib.hid rfl⟩
  rw [hout.out]
  rw [← hX.out] at h1 L1 N1 ⊢
  rw [← hY.out] at h2' L2 N2 ⊢
  have H2 := Lib.hid h2'
  obtain ⟨n1, hn1⟩ : ∃ n1, RowKit.Hid (n1 = l.length) := ⟨_, Lib.hid rfl⟩
  obtain ⟨n2, hn2⟩ : ∃ n2, RowKit.Hid (n2 = m.length) := ⟨_, Lib.hid rfl⟩
  rw [← hn1.out] at h1 ⊢
  rw [← hn2.out] at H2 ⊢
  clear hout h2 h2' hr hs hc hd hl hm
  go_enter Try.func8, Try.ntmps8
  obtain ⟨lx, hlx⟩ : ∃ lx, RowKit.Hid (lx = X.length) := ⟨_, Lib.hid rfl⟩
  obtain ⟨ly, hly⟩ : ∃ ly, RowKit.Hid (ly = Y.length) := ⟨_, Lib.hid rfl⟩
  go_upto_region 2 with (first
    | (go_at_call 13; (with_reducible refine h1.mono ?_); rintro e w2 ⟨v2, rfl, hR2, hb2⟩; obtain ⟨A2, c2, rfl, hc2, hC2⟩ := Kd.R_reads hR2; have F2 := Lib.hid (And.intro hC2 (And.intro hc2 hb2)); rw [← hlx.out]; clear hR2 hb2 hc2 hC2)
    | (go_at_call 13; (with_reducible refine (H2.out _ F2.out.2.2).mono ?_); rintro e w3 ⟨v3, rfl, hR3, hb3⟩; obtain ⟨A3, c3, rfl, hc3, hC3⟩ := Kd.R_reads hR3; have F3 := Lib.hid (And.intro hC3 (And.intro hc3 hb3)); rw [← hly.out]; clear hR3 hb3 hc3 hC3))
  refine abs_m ?_
  intro w4 hw4
  have b34 : RowKit.Hid (Below w3.heap.size w3 w4) := Lib.hid (by rw [hw4]; exact ((Below.refl _ _).alloc (Nat.le_refl _) _).alloc (by rw [World.size_alloc]; omega) _)
  have g0 : w4.heap[w3.heap.size]? = some (.cells #[.slice A2 lx c2] 22 (0, 0)) := by
    rw [hw4]
    exact (((Below.refl _ _).alloc (Nat.le_refl _) _).block _ (by rw [World.size_alloc]; omega)).trans (heap_alloc_new w3 _)
  have g1 : w4.heap[w3.heap.size + 1]? = some (.cells #[.slice A3 ly c3] 22 (0, 0)) := by
    rw [hw4, show w3.heap.size + 1 = (w3.alloc (.cells #[.slice A2 lx c2] 22)).heap.size from (World.size_alloc ..).symm]
    exact heap_alloc_new _ _
  have x0 : w4.cell? ⟨w3.heap.size, 0, none⟩ = some (.slice A2 lx c2) := cell_of_row w4 _ 0 _ _ _ g0
  have x1 : w4.cell? ⟨w3.heap.size + 1, 0, none⟩ = some (.slice A3 ly c3) := cell_of_row w4 _ 0 _ _ _ g1
  have hCX : RowKit.Hid (Kd.C k29 w4 A2 X.length X) := Lib.hid (Kd.C_below (Kd.C_below F2.out.1 F3.out.2.2) b34.out)
  have hCY : RowKit.Hid (Kd.C k29 w4 A3 Y.length Y) := Lib.hid (Kd.C_below F3.out.1 b34.out)
  have b04 : RowKit.Hid (Below w.heap.size w w4) := Lib.hid ((F2.out.2.2.trans (F3.out.2.2.mono F2.out.2.2.size)).trans (b34.out.mono (Nat.le_trans F2.out.2.2.size F3.out.2.2.size)))
  have L := Lib.hid (And.intro x0 x1)
  clear hw4 g0 g1
  obtain ⟨p3, hp3⟩ : ∃ p3, RowKit.Hid (p3 = w3.heap.size) := ⟨_, Lib.hid rfl⟩
  obtain ⟨q3, hq3⟩ : ∃ q3, RowKit.Hid (q3 = w3.heap.size + 1) := ⟨_, Lib.hid rfl⟩
  rw [← hq3.out] at x1 L ⊢
  rw [← hp3.out] at x0 L ⊢
  have hbd : RowKit.Hid (∀ W, W = w4.alloc (.cells #[.slice A2 lx c2, .slice A3 ly c3] 22) → Calls Try.prog 15 #[.slice (some ⟨w4.heap.size, 0, none⟩) 2 2] W (BoundsPost X Y W)) := Lib.hid (by
    rintro W rfl
    have g := heap_alloc_new w4 (.cells #[.slice A2 lx c2, .slice A3 ly c3] 22 (0, 0))
    have ba : Below w4.heap.size w4 (w4.alloc (.cells #[.slice A2 lx c2, .slice A3 ly c3] 22)) := (Below.refl _ _).alloc (Nat.le_refl _) _
    refine bounds2 _ _ _ A2 A3 c2 c3 X Y ?_ ?_ (Kd.C_below hCX.out ba) (Kd.C_below hCY.out ba) L1.out L2.out
    · rw [← hlx.out]; exact cell_of_row _ _ 0 _ _ _ g
    · rw [← hly.out]; exact cell_of_row _ _ 1 _ _ _ g)
  have hpk : RowKit.Hid (∀ W, Below w4.heap.size w4 W → ∀ A6 c6, Kd.C Kd.string W A6 (cutsF X Y).length (cutsF X Y) → Calls Try.prog 14 #[.slice A6 (cutsF X Y).length c6, .func (.func 18) #[] #[.pointer (some ⟨p3, 0, none⟩), .pointer (some ⟨q3, 0, none⟩)]] W fun e w' => ∃ v, e = .returned v ∧ Kd.R k29 29 w' W.heap.size (fun _ => True) v (pickF (fun k => Texts.hasL (X.map pR) k && !Texts.hasL (Y.map pR) k) (cutsF X Y)).1 ∧ Below W.heap.size W w') := Lib.hid (by
    intro W hW A6 c6 hC6
    refine pickD _ W A6 c6 (cutsF X Y) _ _ hC6 (by have := (cutsF_ok X Y).2.2; have := L1.out; have := L2.out; omega) ?_
    intro key W7 hb7
    have b47 : Below w4.heap.size w4 W7 := hW.trans (hb7.mono hW.size)
    have xl : p3 < w4.heap.size := World.block_lt_of_cell? w4 _ L.out.1
    have yl : q3 < w4.heap.size := World.block_lt_of_cell? w4 _ L.out.2
    refine clo_D X Y A2 A3 c2 c3 p3 q3 key W7 ?_ ?_ (Kd.C_below hCX.out b47) (Kd.C_below hCY.out b47) N1.out N2.out (by have := L1.out; omega) (by have := L2.out; omega)
    · rw [← hlx.out]; exact (b47.cell (p := ⟨p3, 0, none⟩) xl).trans L.out.1
    · rw [← hly.out]; exact (b47.cell (p := ⟨q3, 0, none⟩) yl).trans L.out.2)
  obtain ⟨cf, hcf⟩ : ∃ cf, RowKit.Hid (cf = cutsF X Y) := ⟨_, Lib.hid rfl⟩
  rw [← hcf.out] at hpk
  have hbd2 : RowKit.Hid (∀ W, W = w4.alloc (.cells #[.slice A2 lx c2, .slice A3 ly c3] 22) → Calls Try.prog 15 #[.slice (some ⟨w4.heap.size, 0, none⟩) 2 2] W fun e w' => ∃ A6 c6, e = .returned (.slice A6 cf.length c6) ∧ Kd.C Kd.string w' A6 cf.length cf ∧ Below w4.heap.size w4 w') := Lib.hid (by
    intro W hW
    refine (hbd.out W hW).mono ?_
    rintro e w' ⟨v, rfl, hR, hb⟩
    rw [← hcf.out] at hR
    obtain ⟨A6, c6, rfl, -, hC⟩ := Kd.R_reads hR
    subst hW
    exact ⟨A6, c6, rfl, hC, ((Below.refl _ _).alloc (Nat.le_refl _) _).trans (hb.mono (by rw [World.size_alloc]; omega))⟩)
  clear hbd
  obtain ⟨lc, hlc⟩ : ∃ lc, RowKit.Hid (lc = cf.length) := ⟨_, Lib.hid rfl⟩
  rw [← hlc.out] at hbd2 hpk
  go_wp2_with (first
    | (go_at_call 15; (with_reducible refine (hbd2.out _ rfl).mono ?_); rintro e w6 ⟨A6, c6, rfl, hC6, hb6⟩; have F6 := Lib.hid (And.intro hC6 hb6); clear hC6 hb6)
    | (go_at_call 14; (with_reducible refine (hpk.out _ F6.out.2 _ _ F6.out.1).mono ?_); rintro e w7 ⟨v7, rfl, hR7, hb7⟩; have F7 := Lib.hid (And.intro hR7 hb7); clear hR7 hb7))
  go_ret
  have f7 := F7.out.1
  rw [hcf.out] at f7
  exact ⟨_, rfl, Kd.R_lower f7 (Nat.le_trans b04.out.size F6.out.2.size), b04.out.trans ((F6.out.2.trans (F7.out.2.mono F6.out.2.size)).mono b04.out.size)⟩
def span_Minus.f (l0 : List (S29)) (l1 : List (S29)) : Option (List (S29)) := if l0.length ≤ 67108864 ∧ l1.length ≤ 67108864 then some (minusF l0 l1) else none
theorem span_Minus.calls (A0 : Option Addr) (c0 : Nat) (l0 : List (S29)) (A1 : Option Addr) (c1 : Nat) (l1 : List (S29)) (r : List (S29)) (w : World) (hr0 : Kd.C k29 w A0 l0.length l0) (hc0 : l0.length ≤ c0) (hr1 : Kd.C k29 w A1 l1.length l1) (hc1 : l1.length ≤ c1) (h : span_Minus.f l0 l1 = some r) :
    Calls Try.prog 8 #[.slice A0 l0.length c0, .slice A1 l1.length c1] w fun e w' => ∃ v0_ : Value, e = .returned (v0_) ∧ Kd.R k29 29 w' w.heap.size (fun _ => True) v0_ r ∧ Below w.heap.size w w' := by
  unfold span_Minus.f at h
  split at h
  · rename_i he
    injection h with h
    subst h
    exact any_D w A0 A1 c0 c1 l0 l1 hr0 hc0 hr1 hc1 he.1 he.2
  · cases h

/-! ### hawserlaw06_normal: function 9 -/
mutual
def hawserlaw06_normal.l0 : Nat → List (S29) → Int → Option (Bool)
  | 0, _, _ => none
  | k + 1, x0, x3 => if x3 < (x0.length : Int) then (if 0 ≤ x3 then (if ((rd_T29 x0 x3).f1).toList = ([] : List UInt8) then (hawserlaw06_normal.j1 k x0 x3 false) else (hawserlaw06_normal.j1 k x0 x3 (!(Op.bytesLess (((rd_T29 x0 x3).f0).toList) (((rd_T29 x0 x3).f1).toList))))) else (none)) else (some true)
def hawserlaw06_normal.j1 : Nat → List (S29) → Int → Bool → Option (Bool)
  | 0, _, _, _ => none
  | k + 1, x0, x3, x28 => if x28 = true then (some false) else (if (wrap64 (x3 + 1)) < (x0.length : Int) then (if 0 ≤ x3 then (if x3 < (x0.length : Int) then (if ((rd_T29 x0 x3).f1).toList = ([] : List UInt8) then (some false) else (if 0 ≤ (wrap64 (x3 + 1)) then (if ((Op.bytesLess (((rd_T29 x0 x3).f1).toList) (((rd_T29 x0 (wrap64 (x3 + 1))).f0).toList)) = true) then (hawserlaw06_normal.l0 k x0 (wrap64 (x3 + 1))) else (some false)) else (none))) else (none)) else (none)) else (hawserlaw06_normal.l0 k x0 (wrap64 (x3 + 1))))
end
def hawserlaw06_normal.f (k : Nat) (l0 : List (S29)) : Option (Bool) := hawserlaw06_normal.l0 k l0 0
theorem hawserlaw06_normal.mono_l : ∀ k, (∀ y0 y1, LeO (hawserlaw06_normal.l0 k y0 y1) (hawserlaw06_normal.l0 (k + 1) y0 y1)) ∧ (∀ y0 y1 y2, LeO (hawserlaw06_normal.j1 k y0 y1 y2) (hawserlaw06_normal.j1 (k + 1) y0 y1 y2))
  | 0 => ⟨fun _ _ r h => by simp [hawserlaw06_normal.l0] at h, fun _ _ _ r h => by simp [hawserlaw06_normal.j1] at h⟩
  | k + 1 => by
    obtain ⟨ih0, ih1⟩ := hawserlaw06_normal.mono_l k
    refine ⟨?_, ?_⟩
    · intro y0 y1
      unfold hawserlaw06_normal.l0
      repeat' first
      | (with_reducible exact ih0 _ _)
      | (with_reducible exact ih1 _ _ _)
      | (with_reducible exact LeO.refl _)
      | (with_reducible exact LeO.none _)
      | (with_reducible refine LeO.ite ?_ ?_)
      | (with_reducible refine LeO.bind ?_ (fun _ => ?_))
      | exact ih0 _ _
      | exact ih1 _ _ _
      | exact LeO.none _
      | refine LeO.ite ?_ ?_
      | refine LeO.bind ?_ (fun _ => ?_)
    · intro y0 y1 y2
      unfold hawserlaw06_normal.j1
      repeat' first
      | (with_reducible exact ih0 _ _)
      | (with_reducible exact ih1 _ _ _)
      | (with_reducible exact LeO.refl _)
      | (with_reducible exact LeO.none _)
      | (with_reducible refine LeO.ite ?_ ?_)
      | (with_reducible refine LeO.bind ?_ (fun _ => ?_))
      | exact ih0 _ _
      | exact ih1 _ _ _
      | exact LeO.none _
      | refine LeO.ite ?_ ?_
      | refine LeO.bind ?_ (fun _ => ?_)
theorem hawserlaw06_normal.mono : ∀ a0 k, LeO (hawserlaw06_normal.f k a0) (hawserlaw06_normal.f (k + 1) a0) := by
  intro a0 k
  obtain ⟨ih0, ih1⟩ := hawserlaw06_normal.mono_l k
  unfold hawserlaw06_normal.f
  repeat' first
      | (with_reducible exact ih0 _ _)
      | (with_reducible exact ih1 _ _ _)
      | (with_reducible exact LeO.refl _)
      | (with_reducible exact LeO.none _)
      | (with_reducible refine LeO.ite ?_ ?_)
      | (with_reducible refine LeO.bind ?_ (fun _ => ?_))
      | exact ih0 _ _
      | exact ih1 _ _ _
      | exact LeO.none _
      | refine LeO.ite ?_ ?_
      | refine LeO.bind ?_ (fun _ => ?_)
set_option maxHeartbeats 8000000 in
set_option maxRecDepth 100000 in
theorem hawserlaw06_normal.calls (k : Nat) (A0 : Option Addr) (c0 : Nat) (l0 : List (S29)) (r : Bool) (w : World) (hr0 : Kd.C k29 w A0 l0.length l0) (hc0 : l0.length ≤ c0) (h : hawserlaw06_normal.f k l0 = some r) :
    Calls Try.prog 9 #[.slice A0 l0.length c0] w fun e w' => e = .returned (.bool r) ∧ Drawn0 w w' := by
  have HR0 := Aside0.mk hr0
  have HC0 := Aside0.mk hc0
  clear hr0 hc0
  have H : (hawserlaw06_normal.l0 k l0 0) = some r := h
  clear h
  have H' := Aside0.mk H
  clear H
  go_enter Try.func9, Try.ntmps9
  go_wp2
  repeat (go_quiet (fail); try go_wp2)
  go_loopg [3] k (fun kq v3 w' => ∃ (x3_1 : Int), v3 = .int .i64 x3_1 ∧ Aside0 (hawserlaw06_normal.l0 kq l0 x3_1 = some r) ∧ Aside0 (kq ≤ k) ∧ Drawn0 w w')
  case atStart => exact ⟨(0), (by first | rfl | (simp; done) | (simp [*]; done)), H', ⟨Nat.le_refl _⟩, by repeat (first | exact Drawn0.refl _ | apply Drawn0.step)⟩
  case round =>
    clear H'
    obtain ⟨x3_1, rfl, HA, HK1, ⟨m1, rfl⟩⟩ := hrel
    cases gk with
    | zero => exact absurd HA.out (by simp [hawserlaw06_normal.l0])
    | succ k1 =>
      have H := HA.out
      clear HA
      simp only [hawserlaw06_normal.l0] at H
      by_cases c2 : x3_1 < (l0.length : Int)
      · rw [if_pos c2] at H
        have c2b0 : decide (x3_1 < (l0.length : Int)) = true := decide_eq_true c2
        clear c2
        have HC3 := Aside0.mk H
        clear H
        go_upto_region 4 with (fail)
        repeat (go_quiet (fail); go_upto_region 4 with (fail))
        go_cut [28] (fun v28 wc => ∃ (kq : Nat) (x28_2 : Bool), v28 = .bool x28_2 ∧ Aside0 (hawserlaw06_normal.j1 kq l0 x3_1 x28_2 = some r) ∧ Aside0 (kq ≤ k1) ∧ Drawn0 w wc)
        case first =>
          have H := HC3.out
          clear HC3
          by_cases c4 : 0 ≤ x3_1
          · rw [if_pos c4] at H
            have c4b0 : decide (0 ≤ x3_1) = true := decide_eq_true c4
            clear c4
            (first | rw [c4b0] | (simp only [i64_w, i32_w]; rw [c4b0]) | skip)
            by_cases c5 : ((rd_T29 l0 x3_1).f1).toList = ([] : List UInt8)
            · rw [if_pos c5] at H
              have c5b0 : (((rd_T29 l0 x3_1).f1).toList == ([] : List UInt8)) = true := beq_iff_eq.mpr c5
              have c5b1 : (((rd_T29 l0 x3_1).f1).toList != ([] : List UInt8)) = false := bne_eq_false_iff_eq.mpr c5
              clear c5
              have H' := Aside0.mk H
              clear H
              have p128 : 0 ≤ (x3_1 : Int) := of_decide_eq_true (by first | (with_reducible assumption) | assumption)
              have q128 : x3_1 < (l0.length : Int) := of_decide_eq_true (by first | (with_reducible assumption) | assumption)
              obtain ⟨ad128, e128, hx128_0, hx128_1⟩ := at_T29 HR0.out x3_1 p128 q128
              cases e128
              replace p128 := eq_true p128
              replace q128 := eq_true q128
              go_wp2
              repeat (go_quiet (fail); try go_wp2)
              go_meet
              case rel => exact ⟨_, (false), (by first | rfl | (simp; done) | (simp [*]; done)), H', ⟨by have := HK1.out; first | omega | exact Nat.le_refl _⟩, by repeat (first | exact Drawn0.refl _ | apply Drawn0.step)⟩
            · rw [if_neg c5] at H
              have c5b0 : (((rd_T29 l0 x3_1).f1).toList == ([] : List UInt8)) = false := beq_eq_false_iff_ne.mpr c5
              have c5b1 : (((rd_T29 l0 x3_1).f1).toList != ([] : List UInt8)) = true := bne_iff_ne.mpr c5
              have H' := Aside0.mk H
              clear H
              have p128 : 0 ≤ (x3_1 : Int) := of_decide_eq_true (by first | (with_reducible assumption) | assumption)
              have q128 : x3_1 < (l0.length : Int) := of_decide_eq_true (by first | (with_reducible assumption) | assumption)
              obtain ⟨ad128, e128, hx128_0, hx128_1⟩ := at_T29 HR0.out x3_1 p128 q128
              cases e128
              replace p128 := eq_true p128
              replace q128 := eq_true q128
              have p129 : 0 ≤ (x3_1 : Int) := of_decide_eq_true (by first | (with_reducible assumption) | assumption)
              have q129 : x3_1 < (l0.length : Int) := of_decide_eq_true (by first | (with_reducible assumption) | assumption)
              obtain ⟨ad129, e129, hx129_0, hx129_1⟩ := at_T29 HR0.out x3_1 p129 q129
              obtain rfl : ad128 = ad129 := (by injection e129)
              replace p129 := eq_true p129
              replace q129 := eq_true q129
              have p130 : 0 ≤ (x3_1 : Int) := of_decide_eq_true (by first | (with_reducible assumption) | assumption)
              have q130 : x3_1 < (l0.length : Int) := of_decide_eq_true (by first | (with_reducible assumption) | assumption)
              obtain ⟨ad130, e130, hx130_0, hx130_1⟩ := at_T29 HR0.out x3_1 p130 q130
              obtain rfl : ad128 = ad130 := (by injection e130)
              replace p130 := eq_true p130
              replace q130 := eq_true q130
              go_wp2
              repeat (go_quiet (fail); try go_wp2)
              go_meet
              case rel => exact ⟨_, (!(Op.bytesLess (((rd_T29 l0 x3_1).f0).toList) (((rd_T29 l0 x3_1).f1).toList))), (by first | rfl | (simp; done) | (simp [*]; done)), H', ⟨by have := HK1.out; first | omega | exact Nat.le_refl _⟩, by repeat (first | exact Drawn0.refl _ | apply Drawn0.step)⟩
          · rw [if_neg c4] at H
            exact absurd H (by simp)
        case rest =>
          clear HC3
          try clear p1
          try clear q1
          try clear hx1
          try clear c2
          try clear c2b0
          try clear p2
          try clear c4
          try clear c4b0
          try clear c5
          try clear c5b0
          try clear c5b1
          try clear hx128_0
          try clear hx128_1
          try clear hx129_0
          try clear hx129_1
          try clear hx130_0
          try clear hx130_1
          try clear p128
          try clear p129
          try clear p130
          try clear q128
          try clear q129
          try clear q130
          obtain ⟨kq, x28_2, rfl, HA, HJ2, ⟨mc2, rfl⟩⟩ := hcut
          cases kq with
          | zero => exact absurd HA.out (by simp [hawserlaw06_normal.j1])
          | succ kj2 =>
            have H := HA.out
            clear HA
            simp only [hawserlaw06_normal.j1] at H
            by_cases c6 : x28_2 = true
            · subst c6
              have H1 : (some false) = some r := by rw [if_pos rfl] at H; exact H
              clear H
              have H := H1
              clear H1
              obtain rfl := Option.some.inj H
              go_wp2
              repeat (go_quiet (fail); try go_wp2)
              go_ret
              exact ⟨by first | rfl | (simp; done) | (simp [*]; done), by repeat (first | exact Drawn0.refl _ | apply Drawn0.step)⟩
            · replace c6 := Bool.eq_false_iff.mpr c6
              subst c6
              have H1 : (if (wrap64 (x3_1 + 1)) < (l0.length : Int) then (if 0 ≤ x3_1 then (if x3_1 < (l0.length : Int) then (if ((rd_T29 l0 x3_1).f1).toList = ([] : List UInt8) then (some false) else (if 0 ≤ (wrap64 (x3_1 + 1)) then (if ((Op.bytesLess (((rd_T29 l0 x3_1).f1).toList) (((rd_T29 l0 (wrap64 (x3_1 + 1))).f0).toList)) = true) then (hawserlaw06_normal.l0 kj2 l0 (wrap64 (x3_1 + 1))) else (some false)) else (none))) else (none)) else (none)) else (hawserlaw06_normal.l0 kj2 l0 (wrap64 (x3_1 + 1)))) = some r := by rw [if_neg (show ¬ (false = true) by decide)] at H; exact H
              clear H
              have H := H1
              clear H1
              by_cases c7 : (wrap64 (x3_1 + 1)) < (l0.length : Int)
              · rw [if_pos c7] at H
                have c7b0 : decide ((wrap64 (x3_1 + 1)) < (l0.length : Int)) = true := decide_eq_true c7
                clear c7
                by_cases c8 : 0 ≤ x3_1
                · rw [if_pos c8] at H
                  have c8b0 : decide (0 ≤ x3_1) = true := decide_eq_true c8
                  clear c8
                  by_cases c9 : x3_1 < (l0.length : Int)
                  · rw [if_pos c9] at H
                    have c9b0 : decide (x3_1 < (l0.length : Int)) = true := decide_eq_true c9
                    clear c9
                    by_cases c10 : ((rd_T29 l0 x3_1).f1).toList = ([] : List UInt8)
                    · rw [if_pos c10] at H
                      have c10b0 : (((rd_T29 l0 x3_1).f1).toList == ([] : List UInt8)) = true := beq_iff_eq.mpr c10
                      have c10b1 : (((rd_T29 l0 x3_1).f1).toList != ([] : List UInt8)) = false := bne_eq_false_iff_eq.mpr c10
                      clear c10
                      obtain rfl := Option.some.inj H
                      have p131 : 0 ≤ (x3_1 : Int) := of_decide_eq_true (by first | (with_reducible assumption) | assumption)
                      have q131 : x3_1 < (l0.length : Int) := of_decide_eq_true (by first | (with_reducible assumption) | assumption)
                      obtain ⟨ad131, e131, hx131_0, hx131_1⟩ := at_T29 HR0.out x3_1 p131 q131
                      cases e131
                      replace p131 := eq_true p131
                      replace q131 := eq_true q131
                      go_wp2
                      repeat (go_quiet (fail); try go_wp2)
                      go_ret
                      exact ⟨by first | rfl | (simp; done) | (simp [*]; done), by repeat (first | exact Drawn0.refl _ | apply Drawn0.step)⟩
                    · rw [if_neg c10] at H
                      have c10b0 : (((rd_T29 l0 x3_1).f1).toList == ([] : List UInt8)) = false := beq_eq_false_iff_ne.mpr c10
                      have c10b1 : (((rd_T29 l0 x3_1).f1).toList != ([] : List UInt8)) = true := bne_iff_ne.mpr c10
                      obtain ⟨ji11, hji11⟩ : ∃ j_ : Int, (wrap64 (x3_1 + 1)) = j_ := ⟨_, rfl⟩
                      replace H : (if 0 ≤ (ji11) then (if ((Op.bytesLess (((rd_T29 l0 x3_1).f1).toList) (((rd_T29 l0 (ji11)).f0).toList)) = true) then (hawserlaw06_normal.l0 kj2 l0 ji11) else (some false)) else (none)) = some r := by first | (rw [hji11] at H; exact H) | (simp only [hji11] at H ⊢; exact H)
                      (try rw [hji11] at c7b0)
                      have hji11w : (IntKind.i64.wrap (x3_1 + 1)) = ji11 := (i64_w _).trans hji11
                      by_cases c12 : 0 ≤ (ji11)
                      · rw [if_pos c12] at H
                        have c12b0 : decide (0 ≤ (ji11)) = true := decide_eq_true c12
                        clear c12
                        by_cases c13 : ((Op.bytesLess (((rd_T29 l0 x3_1).f1).toList) (((rd_T29 l0 (ji11)).f0).toList)) = true)
                        · rw [if_pos c13] at H
                          have c13b0 : (Op.bytesLess (((rd_T29 l0 x3_1).f1).toList) (((rd_T29 l0 (ji11)).f0).toList)) = true := c13
                          clear c13
                          have H' := Aside0.mk H
                          clear H
                          have p131 : 0 ≤ (x3_1 : Int) := of_decide_eq_true (by first | (with_reducible assumption) | assumption)
                          have q131 : x3_1 < (l0.length : Int) := of_decide_eq_true (by first | (with_reducible assumption) | assumption)
                          obtain ⟨ad131, e131, hx131_0, hx131_1⟩ := at_T29 HR0.out x3_1 p131 q131
                          cases e131
                          replace p131 := eq_true p131
                          replace q131 := eq_true q131
                          have p132 : 0 ≤ (x3_1 : Int) := of_decide_eq_true (by first | (with_reducible assumption) | assumption)
                          have q132 : x3_1 < (l0.length : Int) := of_decide_eq_true (by first | (with_reducible assumption) | assumption)
                          obtain ⟨ad132, e132, hx132_0, hx132_1⟩ := at_T29 HR0.out x3_1 p132 q132
                          obtain rfl : ad131 = ad132 := (by injection e132)
                          replace p132 := eq_true p132
                          replace q132 := eq_true q132
                          have p133 : 0 ≤ ((ji11) : Int) := of_decide_eq_true (by first | (with_reducible assumption) | assumption)
                          have q133 : (ji11) < (l0.length : Int) := of_decide_eq_true (by first | (with_reducible assumption) | assumption)
                          obtain ⟨ad133, e133, hx133_0, hx133_1⟩ := at_T29 HR0.out (ji11) p133 q133
                          obtain rfl : ad131 = ad133 := (by injection e133)
                          replace p133 := eq_true p133
                          replace q133 := eq_true q133
                          go_wp2
                          repeat (go_quiet (fail); try go_wp2)
                          go_roundg kj2
                          case measure => have := HK1.out; have := HJ2.out; omega
                          case rel => exact ⟨(ji11), (by first | rfl | (simp; done) | (simp only [← hji11] <;> (first | rfl | simp)) | (simp [*]; done)), H', ⟨by have := HK1.out; have := HJ2.out; omega⟩, by repeat (first | exact Drawn0.refl _ | apply Drawn0.step)⟩
                        · rw [if_neg c13] at H
                          have c13b0 : (Op.bytesLess (((rd_T29 l0 x3_1).f1).toList) (((rd_T29 l0 (ji11)).f0).toList)) = false := by simpa using c13
                          clear c13
                          obtain rfl := Option.some.inj H
                          have p131 : 0 ≤ (x3_1 : Int) := of_decide_eq_true (by first | (with_reducible assumption) | assumption)
                          have q131 : x3_1 < (l0.length : Int) := of_decide_eq_true (by first | (with_reducible assumption) | assumption)
                          obtain ⟨ad131, e131, hx131_0, hx131_1⟩ := at_T29 HR0.out x3_1 p131 q131
                          cases e131
                          replace p131 := eq_true p131
                          replace q131 := eq_true q131
                          have p132 : 0 ≤ (x3_1 : Int) := of_decide_eq_true (by first | (with_reducible assumption) | assumption)
                          have q132 : x3_1 < (l0.length : Int) := of_decide_eq_true (by first | (with_reducible assumption) | assumption)
                          obtain ⟨ad132, e132, hx132_0, hx132_1⟩ := at_T29 HR0.out x3_1 p132 q132
                          obtain rfl : ad131 = ad132 := (by injection e132)
                          replace p132 := eq_true p132
                          replace q132 := eq_true q132
                          have p133 : 0 ≤ ((ji11) : Int) := of_decide_eq_true (by first | (with_reducible assumption) | assumption)
                          have q133 : (ji11) < (l0.length : Int) := of_decide_eq_true (by first | (with_reducible assumption) | assumption)
                          obtain ⟨ad133, e133, hx133_0, hx133_1⟩ := at_T29 HR0.out (ji11) p133 q133
                          obtain rfl : ad131 = ad133 := (by injection e133)
                          replace p133 := eq_true p133
                          replace q133 := eq_true q133
                          go_wp2
                          repeat (go_quiet (fail); try go_wp2)
                          go_ret
                          exact ⟨by first | rfl | (simp; done) | (simp only [← hji11] <;> (first | rfl | simp)) | (simp [*]; done), by repeat (first | exact Drawn0.refl _ | apply Drawn0.step)⟩
                      · rw [if_neg c12] at H
                        exact absurd H (by simp)
                  · rw [if_neg c9] at H
                    exact absurd H (by simp)
                · rw [if_neg c8] at H
                  exact absurd H (by simp)
              · rw [if_neg c7] at H
                have c7b0 : decide ((wrap64 (x3_1 + 1)) < (l0.length : Int)) = false := decide_eq_false c7
                clear c7
                have H' := Aside0.mk H
                clear H
                go_wp2
                repeat (go_quiet (fail); try go_wp2)
                go_roundg kj2
                case measure => have := HK1.out; have := HJ2.out; omega
                case rel => exact ⟨(wrap64 (x3_1 + 1)), (by first | rfl | (simp; done) | (simp [*]; done)), H', ⟨by have := HK1.out; have := HJ2.out; omega⟩, by repeat (first | exact Drawn0.refl _ | apply Drawn0.step)⟩
      · rw [if_neg c2] at H
        have c2b0 : decide (x3_1 < (l0.length : Int)) = false := decide_eq_false c2
        clear c2
        obtain rfl := Option.some.inj H
        go_wp2
        repeat (go_quiet (fail); try go_wp2)
        go_ret
        exact ⟨by first | rfl | (simp; done) | (simp [*]; done), by repeat (first | exact Drawn0.refl _ | apply Drawn0.step)⟩

end Go.Proofs.Ytmjmjjhfficilaa.PSpanMembers

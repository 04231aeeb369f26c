/- What is proved: contracts of functions that the law uses, each under the conditions that its theorem states. -/
import Derived.Test.YtmjmjjhfficilaaDoorBackPlain
import Derived.Deep.RegionWith
namespace Go.Proofs.YtmjmjjhfficilaaDoor.PSpanBack
open Go.RowKit Go.Proofs.YtmjmjjhfficilaaDoorW.PrintWords Go.Proofs.YtmjmjjhfficilaaDoorW.PrintLast Go.Proofs.YtmjmjjhfficilaaDoorW.PrintMore
set_option linter.unusedVariables false
set_option linter.unusedSimpArgs false
theorem bt {w w1 w2 : World} (h1 : Below w.heap.size w w1) (h2 : Below w1.heap.size w1 w2) : Below w.heap.size w w2 := h1.trans (h2.mono h1.size)
theorem drawn_below {w w' : World} (h : Drawn0 w w') : Below w.heap.size w w' := by
  obtain ⟨n, rfl⟩ := h
  exact pw_below_drewN (Below.refl _ _) n
theorem info3' : (Tryd.prog.info? 3).map (fun i => (i.zero, i.size, i.bytes)) = some (some (.int .i64 0), 1, 8) := by kernel_rfl
theorem at_I {w : World} {A : Option Addr} {xs : List Int} (h : Kd.C (Kd.int .i64) w A xs.length xs) (i : Nat) (hi : i < xs.length) : ∃ ad, A = some ad ∧ w.cell? (ad.add i) = some (.int .i64 xs[i]) := by
  obtain ⟨ad, e, hc⟩ := h.2.2 (by omega)
  refine ⟨ad, e, ?_⟩
  obtain ⟨cs, hl, hk, hcell⟩ := hc i xs[i] (List.getElem?_eq_getElem hi)
  have e1 : cs = [.int .i64 xs[i]] := hk
  have h1 := hcell 0 (.int .i64 xs[i]) (by rw [e1]; rfl)
  have hz : (Kd.int .i64).sz = 1 := rfl
  rw [hz, Nat.mul_one, Nat.add_zero] at h1
  exact h1
set_option maxRecDepth 100000 in
set_option maxHeartbeats 8000000 in
theorem back_bad (w : World) (d : Int) (A : Option Addr) (c : Nat) (bs : List Int) (hra : Kd.C (Kd.int .i64) w A bs.length bs) (hca : bs.length ≤ c) (la : bs.length ≤ 1048576) (hbad : ¬ (inD d ∧ bs.all (valid d) = true)) :
    Calls Tryd.prog 6 #[.int .i64 d, .slice A bs.length c] w fun e w' => e = .returned (.bool true) ∧ Below w.heap.size w w' := by
  obtain ⟨k0, e0⟩ := awake_law
  obtain ⟨k1, e1⟩ := ranges_f d bs la
  have hne : rngE d bs ≠ 0 := by
    unfold rngE
    by_cases h1 : inD d
    · rw [if_pos h1, if_neg (fun h => hbad ⟨h1, h⟩)]; decide
    · rw [if_neg h1]; decide
  obtain ⟨er, her⟩ : ∃ er, RowKit.Hid (er = rngE d bs) := ⟨_, Lib.hid rfl⟩
  obtain ⟨rl, hrl⟩ : ∃ rl, RowKit.Hid (rl = rngF d bs) := ⟨_, Lib.hid rfl⟩
  rw [← her.out] at e1 hne
  rw [← hrl.out] at e1
  have aw := fun W => hawserlaw06_awake.calls k0 true W e0
  have rngs := fun W A c hC hc => span_Ranges.calls k1 d A c bs rl er W hC hc e1
  have hne1 : (er != 0) = true := bne_iff_ne.2 hne
  have H := Lib.hid hra
  have hc := Lib.hid hca
  have LA := Lib.hid la
  have BAD := Lib.hid hbad
  obtain ⟨n, hn⟩ : ∃ n, RowKit.Hid (n = bs.length) := ⟨_, Lib.hid rfl⟩
  clear e0 e1 hra hca la hbad
  go_enter Tryd.func6, Tryd.ntmps6
  go_upto_region 7 with (first
    | (go_at_call 26; (with_reducible refine (aw w).mono ?_); rintro e w1 ⟨rfl, hb1⟩; have b1 := Lib.hid hb1; clear hb1)
    | (go_at_call 27; (with_reducible refine (rngs w1 A c (Kd.C_below H.out b1.out) hc.out).mono ?_); rintro e w2 ⟨v2, rfl, hR2, hb2⟩; obtain ⟨A2, c2, rfl, hc2, hC2⟩ := Kd.R_reads hR2; have F2 := Lib.hid (And.intro hC2 (And.intro hc2 hR2)); clear hR2 hc2 hC2; have b2 := Lib.hid hb2; clear hb2))
  go_loopw [7, 8] (fun nv iv wr => ∃ m i : Int, nv = .int .i64 m ∧ iv = .int .i64 i ∧ ((i = 1 ∧ m = 16) ∨ (i = 2 ∧ m = 256 ∧ 2 ≤ d ∧ d ≤ 3) ∨ (i = 3 ∧ m = 4096 ∧ d = 3)) ∧ Below w.heap.size w wr) (fun _ iv _ => 3 - (intOf iv).toNat)
  case atStart => exact ⟨16, 1, rfl, rfl, .inl ⟨rfl, rfl⟩, (bt b1.out b2.out)⟩
  case round =>
    obtain ⟨m, i, rfl, rfl, hmi, hb⟩ := hrel
    by_cases hlt : i < d
    · by_cases h3 : d ≤ 3
      · have hm : wrap64 (m * 16) = m * 16 := IntWalk.wrap64_in _ (by omega)
        have hm' : IntKind.i64.wrap (m * 16) = m * 16 := IntWalk.i64_in _ (by omega)
        have hi : wrap64 (i + 1) = i + 1 := IntWalk.wrap64_in _ (by omega)
        have hi' : IntKind.i64.wrap (i + 1) = i + 1 := IntWalk.i64_in _ (by omega)
        go_wp2
        refine ⟨⟨m * 16, i + 1, by first | rfl | go_num, by first | rfl | go_num, ?_, hb⟩, by simp [intOf]; omega⟩
        rcases hmi with ⟨rfl, rfl⟩ | ⟨rfl, rfl, -, -⟩ | ⟨rfl, rfl, rfl⟩
        · exact .inr (.inl ⟨rfl, rfl, by omega, h3⟩)
        · exact .inr (.inr ⟨rfl, rfl, by omega⟩)
        · omega
      · have hz : True := trivial
        have t1 : d ≥ 1 := by omega
        have t3 : ¬ (d ≤ 3) := by omega
        go_upto_region 12 with (fail)
        go_loopw [9, 10] (fun rv iv wr => ∃ j : Nat, j ≤ bs.length ∧ rv = .bool false ∧ iv = .int .i64 j ∧ Below w.heap.size w wr) (fun _ iv _ => bs.length - (intOf iv).toNat)
        case atStart => exact ⟨0, by omega, rfl, rfl, hb⟩
        case round =>
          obtain ⟨j, hj, rfl, rfl, hb2⟩ := hrel
          have lA := LA.out
          by_cases hjl : j < bs.length
          · have ij : (j : Int) < (bs.length : Int) := by omega
            have hi2 : wrap64 ((j : Int) + 1) = ((j + 1 : Nat) : Int) := by rw [IntWalk.wrap64_in _ (by omega)]; omega
            have hi2' : IntKind.i64.wrap ((j : Int) + 1) = ((j + 1 : Nat) : Int) := by rw [IntWalk.i64_in _ (by omega)]; omega
            go_wp2
            refine ⟨⟨j + 1, by omega, rfl, by first | rfl | go_num, hb2⟩, by simp [intOf]; omega⟩
          · have ij : ¬ ((j : Int) < (bs.length : Int)) := by omega
            go_wp2
            go_ret
            exact ⟨rfl, hb2⟩

    · by_cases hd1 : d ≥ 1
      · have hd3 : d ≤ 3 := by omega
        have t1 : d ≥ 1 := by omega
        have t3 : d ≤ 3 := by omega
        have hmc : m = (cntN d : Int) := by
          unfold cntN
          rcases hmi with ⟨rfl, rfl⟩ | ⟨rfl, rfl, q1, q2⟩ | ⟨rfl, rfl, q1⟩
          · rw [if_pos (by omega)]; rfl
          · rw [if_neg (by omega), if_pos (by omega)]; rfl
          · rw [if_neg (by omega), if_neg (by omega)]; rfl
        have hin : inD d := by unfold inD; omega
        go_upto_region 12 with (fail)
        go_loopw [9, 10] (fun rv iv wr => ∃ j : Nat, j ≤ bs.length ∧ rv = .bool ((bs.take j).all (valid d)) ∧ iv = .int .i64 j ∧ Below w.heap.size w wr) (fun _ iv _ => bs.length - (intOf iv).toNat)
        case atStart => exact ⟨0, by omega, rfl, rfl, hb⟩
        case round =>
          obtain ⟨j, hj, rfl, rfl, hb2⟩ := hrel
          have lA := LA.out
          by_cases hjl : j < bs.length
          · have ij : (j : Int) < (bs.length : Int) := by omega
            have l16 : (0 : Int) ≤ (j : Int) := by omega
            have hi2 : wrap64 ((j : Int) + 1) = ((j + 1 : Nat) : Int) := by rw [IntWalk.wrap64_in _ (by omega)]; omega
            have hi2' : IntKind.i64.wrap ((j : Int) + 1) = ((j + 1 : Nat) : Int) := by rw [IntWalk.i64_in _ (by omega)]; omega
            have hsucc : (bs.take (j + 1)).all (valid d) = ((bs.take j).all (valid d) && valid d bs[j]) := by rw [List.take_succ_eq_append_getElem hjl, List.all_append, List.all_cons, List.all_nil, Bool.and_true]
            obtain ⟨ad, eA, x0⟩ := at_I (Kd.C_below H.out hb2) j hjl
            have hvx : valid d bs[j] = (decide (bs[j] ≥ 0) && decide (bs[j] < m)) := by unfold valid; rw [hmc]; simp
            generalize bs[j] = x at x0 hsucc hvx
            generalize (bs.take j).all (valid d) = rb at hsucc ⊢
            cases eA
            have x0' : wr.cell? (ad.add j) = some (.int .i64 x) := x0
            cases rb with
            | false =>
              go_wp2
              refine ⟨⟨j + 1, by omega, by rw [hsucc]; rfl, by first | rfl | go_num, hb2⟩, by simp [intOf]; omega⟩
            | true =>
              by_cases hx0 : x ≥ 0
              · go_wp2
                refine ⟨⟨j + 1, by omega, by rw [hsucc, hvx, decide_eq_true hx0]; simp [hmc], by first | rfl | go_num, hb2⟩, by simp [intOf]; omega⟩
              · go_wp2
                refine ⟨⟨j + 1, by omega, by rw [hsucc, hvx, decide_eq_false hx0]; rfl, by first | rfl | go_num, hb2⟩, by simp [intOf]; omega⟩
          · have ij : ¬ ((j : Int) < (bs.length : Int)) := by omega
            obtain rfl : j = bs.length := by omega
            have hall : (bs.take bs.length).all (valid d) = false := by
              rw [List.take_length]
              cases e : bs.all (valid d) with
              | false => rfl
              | true => exact absurd ⟨hin, e⟩ BAD.out
            rw [hall]
            go_wp2
            go_ret
            exact ⟨rfl, hb2⟩
      · have hz : True := trivial
        have t1 : ¬ (d ≥ 1) := hd1
        go_upto_region 12 with (fail)
        go_loopw [9, 10] (fun rv iv wr => ∃ j : Nat, j ≤ bs.length ∧ rv = .bool false ∧ iv = .int .i64 j ∧ Below w.heap.size w wr) (fun _ iv _ => bs.length - (intOf iv).toNat)
        case atStart => exact ⟨0, by omega, rfl, rfl, hb⟩
        case round =>
          obtain ⟨j, hj, rfl, rfl, hb2⟩ := hrel
          have lA := LA.out
          by_cases hjl : j < bs.length
          · have ij : (j : Int) < (bs.length : Int) := by omega
            have hi2 : wrap64 ((j : Int) + 1) = ((j + 1 : Nat) : Int) := by rw [IntWalk.wrap64_in _ (by omega)]; omega
            have hi2' : IntKind.i64.wrap ((j : Int) + 1) = ((j + 1 : Nat) : Int) := by rw [IntWalk.i64_in _ (by omega)]; omega
            go_wp2
            refine ⟨⟨j + 1, by omega, rfl, by first | rfl | go_num, hb2⟩, by simp [intOf]; omega⟩
          · have ij : ¬ ((j : Int) < (bs.length : Int)) := by omega
            go_wp2
            go_ret
            exact ⟨rfl, hb2⟩

set_option maxRecDepth 100000 in
set_option maxHeartbeats 8000000 in
theorem back_ok (w : World) (d : Int) (A : Option Addr) (c : Nat) (bs : List Int) (hra : Kd.C (Kd.int .i64) w A bs.length bs) (hca : bs.length ≤ c) (la : bs.length ≤ 1048576) (hd : inD d) (hv : bs.all (valid d) = true) :
    Calls Tryd.prog 6 #[.int .i64 d, .slice A bs.length c] w fun e w' => e = .returned (.bool true) ∧ Below w.heap.size w w' := by
  obtain ⟨k0, e0⟩ := awake_law
  obtain ⟨k1, e1⟩ := ranges_f d bs la
  have her : rngE d bs = 0 := by unfold rngE; rw [if_pos hd, if_pos hv]
  have hrl : rngF d bs = mergeF (bs.map (bkI d)) := by unfold rngF; rw [if_pos ⟨hd, hv⟩]
  have hrlen : (rngF d bs).length ≤ bs.length := by rw [hrl]; exact Nat.le_trans (mergeF_len _) (by rw [List.length_map]; exact Nat.le_refl _)
  have hout := outs_rng d bs hd hv
  have hol := outs_len d (rngF d bs)
  have e2 : span_Buckets.f d (rngF d bs) = some (outsF d (rngF d bs), 0) := by
    unfold span_Buckets.f
    rw [if_pos (by omega)]
    unfold errF
    rw [if_pos (show d = 1 ∨ d = 2 ∨ d = 3 from hd)]
  have e3 : hawserlaw06_normal.f (2 * (rngF d bs).length + 1) (rngF d bs) = some true := normal_f _ (by omega) (by rw [hrl]; exact mergeF_nf _)
  have hS : sort_Ints.f bs = some (sortZ bs) := by unfold sort_Ints.f; rw [if_pos (by omega)]
  have hsl := sortZ_len bs
  rw [hout] at e2 hol
  rw [her] at e1
  obtain ⟨rl, hrl2⟩ : ∃ rl, RowKit.Hid (rl = rngF d bs) := ⟨_, Lib.hid rfl⟩
  rw [← hrl2.out] at e1 e2 e3
  obtain ⟨S, hS2⟩ : ∃ S, RowKit.Hid (S = sortZ bs) := ⟨_, Lib.hid rfl⟩
  rw [← hS2.out] at e2 hS hsl hol
  have e4 := same_ints_f (dedI S S.length) hol
  obtain ⟨D, hD⟩ : ∃ D, RowKit.Hid (D = dedI S S.length) := ⟨_, Lib.hid rfl⟩
  rw [← hD.out] at e2 e4 hol
  have aw := fun W => hawserlaw06_awake.calls k0 true W e0
  have rngs := fun W A c hC hc => span_Ranges.calls k1 d A c bs rl 0 W hC hc e1
  have buck := fun W A c hC hc => span_Buckets.calls d A c rl D 0 W hC hc e2
  have nor := fun W A c hC hc => (hawserlaw06_normal.calls _ A c rl true W hC hc e3).mono (fun _ _ (h : _ ∧ _) => And.intro h.1 (drawn_below h.2))
  have same1 := fun W A c h hc A' c' h' hc' => (hawserlaw06_sameInts.calls (2 * D.length + 2) A c D A' c' D true W h hc h' hc' e4).mono (fun _ _ (h : _ ∧ _) => And.intro h.1 (drawn_below h.2))
  have HS := Lib.hid hS
  have H := Lib.hid hra
  have hc := Lib.hid hca
  have LA := Lib.hid la
  have LS := Lib.hid hsl
  clear e0 e1 e2 e3 e4 hra hca la her hrl hrlen hout hol hS hsl hd hv
  go_enter Tryd.func6, Tryd.ntmps6
  go_upto_region 21 with (first
    | (go_at_call 26; (with_reducible refine (aw w).mono ?_); rintro e w1 ⟨rfl, hb1⟩; have b1 := Lib.hid hb1; clear hb1)
    | (go_at_call 27; (with_reducible refine (rngs w1 A c (Kd.C_below H.out b1.out) hc.out).mono ?_); rintro e w2 ⟨v2, rfl, hR2, hb2⟩; obtain ⟨A2, c2, rfl, hc2, hC2⟩ := Kd.R_reads hR2; have F2 := Lib.hid (And.intro hC2 (And.intro hc2 hR2)); clear hR2 hc2 hC2; have b2 := Lib.hid hb2; clear hb2)
    | (go_at_call 13; (with_reducible refine (buck w2 A2 c2 F2.out.1 F2.out.2.1).mono ?_); rintro e w3 ⟨v3, rfl, hR3, hb3⟩; obtain ⟨A3, c3, rfl, hc3, hC3⟩ := Kd.R_reads hR3; have F3 := Lib.hid (And.intro hC3 (And.intro hc3 hR3)); clear hR3 hc3 hC3; have b3 := Lib.hid hb3; clear hb3)
    | (at_builtin; refine Kd.R_append_rows (Kd.int .i64) (Rr := (Kd.int .i64).K w3) (w0 := w3) w3.heap.size rfl (.const (.slice none 0 0)) (.tmp 73) 37 3 (.int .i64 0) 8 rfl Tryd.underlying37 info3' rfl (by decide) (by decide) (.slice none 0 0) [] bs A bs.length c (fun _ => True) (fun _ => False) rfl rfl (Kd.R_nil _ _ _ _ _) (Kd.C_below H.out (bt (bt b1.out b2.out) b3.out)) (fun x cs h => h) (fun _ h => h.elim) (fun _ _ => trivial) (Below.refl _ _) (Nat.le_refl _) (by have := LA.out; simp; omega) ?_; intro v4 w4 hR4 hb4 hg4 hat4; rw [List.nil_append] at hR4; have F4 := Lib.hid (And.intro hR4 hb4); clear hR4 hb4 hg4 hat4)
    | (go_at_call 28; (with_reducible refine (sort_Ints.calls (fun _ => True) v4 bs S w3 _ F4.out.2 F4.out.1 HS.out).mono ?_); rintro e w5 ⟨rfl, hR5, hb5, hk5⟩; have F5 := Lib.hid (And.intro (Kd.R_mono (ok' := fun _ => True) hR5 (fun _ _ => trivial)) hb5); clear hR5 hb5 hk5))
  obtain ⟨A5, c5, rfl, hc5, hC5⟩ := Kd.R_reads F5.out.1
  have C5 := Lib.hid (And.intro hC5 hc5)
  clear hC5 hc5
  have CR : RowKit.Hid (Kd.C k27 w5 A2 rl.length rl) := Lib.hid (Kd.C_below F2.out.1 (bt b3.out F5.out.2))
  have CG : RowKit.Hid (Kd.C (Kd.int .i64) w5 A3 D.length D) := Lib.hid (Kd.C_below F3.out.1 F5.out.2)
  have B5 : RowKit.Hid (Below w.heap.size w w5) := Lib.hid (bt (bt (bt b1.out b2.out) b3.out) F5.out.2)
  go_loopw [14, 15] (fun v iv wr => ∃ i : Nat, i ≤ S.length ∧ iv = .int .i64 i ∧ Kd.R (Kd.int .i64) 3 wr w5.heap.size (fun _ => True) v (dedI S i) ∧ Below w5.heap.size w5 wr) (fun _ iv _ => S.length - (intOf iv).toNat)
  case atStart => exact ⟨0, by omega, rfl, Kd.R_nil _ _ _ _ _, Below.refl _ _⟩
  case round =>
    obtain ⟨i, hi, rfl, hR, hb⟩ := hrel
    have ls := LS.out
    have la := LA.out
    have hf0 : wr.heap.size ≥ w5.heap.size := hb.size
    obtain ⟨Av, cv, rfl, hcv, hCv⟩ := Kd.R_reads hR
    by_cases hlt : i < S.length
    · have ij : (i : Int) < (S.length : Int) := by omega
      have l16 : (0 : Int) ≤ (i : Int) := by omega
      have hi2 : wrap64 ((i : Int) + 1) = ((i + 1 : Nat) : Int) := by rw [IntWalk.wrap64_in _ (by omega)]; omega
      have hi2' : IntKind.i64.wrap ((i : Int) + 1) = ((i + 1 : Nat) : Int) := by rw [IntWalk.i64_in _ (by omega)]; omega
      obtain ⟨ad, eA, x0⟩ := at_I (Kd.C_below C5.out.1 hb) i hlt
      have g1 : S.getD i 0 = S[i] := by simp [List.getD, List.getElem?_eq_getElem hlt]
      have hsucc : dedI S (i + 1) = if i = 0 ∨ S[i] ≠ S.getD (i - 1) 0 then dedI S i ++ [S[i]] else dedI S i := by rw [dedI, g1]
      have hdl := dedI_len S i
      obtain ⟨x, hx⟩ : ∃ x, RowKit.Hid (x = S[i]) := ⟨_, Lib.hid rfl⟩
      rw [← hx.out] at x0 hsucc
      obtain ⟨di, hdi⟩ : ∃ di, RowKit.Hid (di = dedI S i) := ⟨_, Lib.hid rfl⟩
      rw [← hdi.out] at hR hsucc hdl hCv hcv ⊢
      have HR := Lib.hid (And.intro hR hb)
      have LD : RowKit.Hid ((di.length + 1) * 8 ≤ 140737488355328) := Lib.hid (by omega)
      cases eA
      clear hR hb hCv hcv hdl g1 ls
      by_cases h0 : i = 0
      · have hz0 : ((i : Int) == 0) = true := beq_iff_eq.2 (by omega)
        rw [if_pos (.inl h0)] at hsucc
        have HSU := Lib.hid hsucc
        clear hsucc
        go_upto_region 23 with (fail)
        go_quiet (fail)
        clear hz0 h0
        have bd : Below wr.heap.size wr (wr.drewN nq) := pw_below_drewN (Below.refl _ _) nq
        have y0 : (wr.drewN nq).cell? (ad.add i) = some (.int .i64 x) := (bd.cell (p := ad.add i) (World.block_lt_of_cell? wr _ x0)).trans x0
        have RD : RowKit.Hid (Kd.R (Kd.int .i64) 3 (wr.drewN nq) w5.heap.size (fun _ => True) (.slice Av di.length cv) di ∧ Below w5.heap.size w5 (wr.drewN nq) ∧ w5.heap.size ≤ (wr.drewN nq).heap.size) := Lib.hid ⟨Kd.R_below HR.out.1 bd, pw_below_drewN HR.out.2 nq, Nat.le_trans hf0 bd.size⟩
        clear bd
        generalize wr.drewN nq = wd at y0 RD ⊢
        go_wp2_with (first
          | (at_builtin; refine Kd.R_append (Kd.int .i64) (w0 := w5) w5.heap.size rfl (.tmp 97) (.tmp 102) 37 3 (.int .i64 0) 8 rfl Tryd.underlying37 info3' rfl (by decide) (by decide) (.slice Av di.length cv) di x [.int .i64 x] (fun _ => True) (fun _ => False) rfl rfl rfl (fun _ h => h.elim) (fun _ _ => trivial) RD.out.1 RD.out.2.1 RD.out.2.2 LD.out ?_; intro v6 w6 ho6 hb6 hg6 hat6; have F6 := Lib.hid (And.intro ho6 hb6); clear ho6 hb6 hg6 hat6))
        refine ⟨⟨i + 1, by omega, by first | rfl | go_num, ?_, F6.out.2⟩, by simp [intOf]; omega⟩
        rw [HSU.out]
        exact F6.out.1
      · have hz0 : ((i : Int) == 0) = false := beq_eq_false_iff_ne.2 (by omega)
        have hlt2 : i - 1 < S.length := by omega
        have g2 : S.getD (i - 1) 0 = S[i - 1] := by simp [List.getD, List.getElem?_eq_getElem hlt2]
        obtain ⟨ad', eA', x1⟩ := at_I (Kd.C_below C5.out.1 HR.out.2) (i - 1) hlt2
        have ead : ad' = ad := by injection eA' with e; exact e.symm
        subst ead
        clear eA'
        have hp1 : wrap64 ((i : Int) - 1) = ((i - 1 : Nat) : Int) := by have ls := LS.out; rw [IntWalk.wrap64_in _ (by omega)]; omega
        have hp1' : IntKind.i64.wrap ((i : Int) - 1) = ((i - 1 : Nat) : Int) := by have ls := LS.out; rw [IntWalk.i64_in _ (by omega)]; omega
        have l17 : (0 : Int) ≤ ((i - 1 : Nat) : Int) := by omega
        have ij2 : ((i - 1 : Nat) : Int) < (S.length : Int) := by omega
        rw [g2] at hsucc
        obtain ⟨y, hy⟩ : ∃ y, RowKit.Hid (y = S[i - 1]) := ⟨_, Lib.hid rfl⟩
        rw [← hy.out] at x1 hsucc
        replace l16 := eq_true l16
        replace l17 := eq_true l17
        replace ij := eq_true ij
        replace ij2 := eq_true ij2
        by_cases hxy : x = y
        · have hbe : (x != y) = false := bne_eq_false_iff_eq.2 hxy
          rw [if_neg (by rintro (h | h); exact h0 h; exact h hxy)] at hsucc
          have HSU := Lib.hid hsucc
          clear hsucc
          go_upto_region 23 with (fail)
          go_quiet (fail)
          have bd : Below wr.heap.size wr (wr.drewN nq) := pw_below_drewN (Below.refl _ _) nq
          have y0 : (wr.drewN nq).cell? (ad'.add i) = some (.int .i64 x) := (bd.cell (p := ad'.add i) (World.block_lt_of_cell? wr _ x0)).trans x0
          have RD : RowKit.Hid (Kd.R (Kd.int .i64) 3 (wr.drewN nq) w5.heap.size (fun _ => True) (.slice Av di.length cv) di ∧ Below w5.heap.size w5 (wr.drewN nq) ∧ w5.heap.size ≤ (wr.drewN nq).heap.size) := Lib.hid ⟨Kd.R_below HR.out.1 bd, pw_below_drewN HR.out.2 nq, Nat.le_trans hf0 bd.size⟩
          clear bd
          generalize wr.drewN nq = wd at y0 RD ⊢
          go_wp2
          refine ⟨⟨i + 1, by omega, by first | rfl | go_num, ?_, RD.out.2.1⟩, by simp [intOf]; omega⟩
          rw [HSU.out]
          exact RD.out.1
        · have hbe : (x != y) = true := bne_iff_ne.2 hxy
          rw [if_pos (.inr hxy)] at hsucc
          have HSU := Lib.hid hsucc
          clear hsucc
          go_upto_region 23 with (fail)
          go_quiet (fail)
          have bd : Below wr.heap.size wr (wr.drewN nq) := pw_below_drewN (Below.refl _ _) nq
          have y0 : (wr.drewN nq).cell? (ad'.add i) = some (.int .i64 x) := (bd.cell (p := ad'.add i) (World.block_lt_of_cell? wr _ x0)).trans x0
          have RD : RowKit.Hid (Kd.R (Kd.int .i64) 3 (wr.drewN nq) w5.heap.size (fun _ => True) (.slice Av di.length cv) di ∧ Below w5.heap.size w5 (wr.drewN nq) ∧ w5.heap.size ≤ (wr.drewN nq).heap.size) := Lib.hid ⟨Kd.R_below HR.out.1 bd, pw_below_drewN HR.out.2 nq, Nat.le_trans hf0 bd.size⟩
          clear bd
          generalize wr.drewN nq = wd at y0 RD ⊢
          go_wp2_with (first
            | (at_builtin; refine Kd.R_append (Kd.int .i64) (w0 := w5) w5.heap.size rfl (.tmp 97) (.tmp 102) 37 3 (.int .i64 0) 8 rfl Tryd.underlying37 info3' rfl (by decide) (by decide) (.slice Av di.length cv) di x [.int .i64 x] (fun _ => True) (fun _ => False) rfl rfl rfl (fun _ h => h.elim) (fun _ _ => trivial) RD.out.1 RD.out.2.1 RD.out.2.2 LD.out ?_; intro v6 w6 ho6 hb6 hg6 hat6; have F6 := Lib.hid (And.intro ho6 hb6); clear ho6 hb6 hg6 hat6))
          refine ⟨⟨i + 1, by omega, by first | rfl | go_num, ?_, F6.out.2⟩, by simp [intOf]; omega⟩
          rw [HSU.out]
          exact F6.out.1
    · obtain rfl : i = S.length := by omega
      have ij : ¬ ((S.length : Int) < (S.length : Int)) := by omega
      rw [← hD.out] at hR hCv hcv ⊢
      have CRr : RowKit.Hid (Kd.C k27 wr A2 rl.length rl) := Lib.hid (Kd.C_below CR.out hb)
      have CGr : RowKit.Hid (Kd.C (Kd.int .i64) wr A3 D.length D) := Lib.hid (Kd.C_below CG.out hb)
      have CW : RowKit.Hid (Kd.C (Kd.int .i64) wr Av D.length D ∧ D.length ≤ cv) := Lib.hid ⟨hCv, hcv⟩
      have BR : RowKit.Hid (Below w.heap.size w wr) := Lib.hid (bt B5.out hb)
      clear hR hCv hcv hb ls
      go_wp2_with (first
        | (go_at_call 29; (with_reducible refine (nor wr A2 c2 CRr.out F2.out.2.1).mono ?_); rintro e w7 ⟨rfl, hb7⟩; have b7 := Lib.hid hb7; clear hb7)
        | (go_at_call 16; (with_reducible refine (same1 w7 A3 c3 (Kd.C_below CGr.out b7.out) F3.out.2.1 Av cv (Kd.C_below CW.out.1 b7.out) CW.out.2).mono ?_); rintro e w8 ⟨rfl, hb8⟩; have b8 := Lib.hid hb8; clear hb8))
      go_ret
      exact ⟨rfl, bt BR.out (bt b7.out b8.out)⟩
theorem back_walk (w : World) (d : Int) (A : Option Addr) (c : Nat) (bs : List Int) (hra : Kd.C (Kd.int .i64) w A bs.length bs) (hca : bs.length ≤ c) (la : bs.length ≤ 1048576) :
    Calls Tryd.prog 6 #[.int .i64 d, .slice A bs.length c] w fun e w' => e = .returned (.bool true) ∧ Below w.heap.size w w' := by
  by_cases h : inD d ∧ bs.all (valid d) = true
  · exact back_ok w d A c bs hra hca la h.1 h.2
  · exact back_bad w d A c bs hra hca la h
end Go.Proofs.YtmjmjjhfficilaaDoor.PSpanBack

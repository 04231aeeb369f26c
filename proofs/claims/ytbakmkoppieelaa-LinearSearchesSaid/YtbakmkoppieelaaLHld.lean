/- What is proved: Holds answers whether an order is a witness, of any calls and order. -/
import Derived.Test.YtbakmkoppieelaaLAwk
import Derived.Test.YtbakmkoppieelaaLSeaC
namespace Go.Proofs.Ytbakmkoppieelaa.PLinearChecks
open Go.RowKit Go.Proofs.YtbakmkoppieelaaW.PrintWords Go.Proofs.YtbakmkoppieelaaW.PrintLast Go.Proofs.YtbakmkoppieelaaW.PrintMore
set_option linter.unusedVariables false
set_option linter.unusedSimpArgs false
/-- Is an order a witness: where it stops being one, and the error. -/
def hldF (l : List S39) : List Nat → KF → List Nat → Int × Int
  | o, _, [] => if whlB l o = true then (0, 0) else ((o.length : Int), 262)
  | o, m, i :: t => if rdyB l o i = true then (if (hapF (m (kyF l i)) (cl l i)).2 = true then hldF l (o ++ [i]) (updK m (kyF l i) (hapF (m (kyF l i)) (cl l i)).1) t else ((o.length : Int), 262)) else ((o.length : Int), 262)
/-- Are these places of a history, none twice, none of a reading that was not answered? -/
def ordB (l : List S39) : List Nat → List Int → Bool
  | _, [] => true
  | o, i :: t => decide (0 ≤ i) && (decide (i < l.length) && (!o.contains i.toNat && (!((cl l i.toNat).f2 && !ansB (cl l i.toNat)) && ordB l (o ++ [i.toNat]) t)))
def ix (xs : List Int) (k : Int) : Int := xs.getD k.toNat 0
theorem int_at {w : World} {A : Option Addr} {n : Nat} {xs : List Int} (h : Kd.C (Kd.int .i64) w A n xs) (k : Int) (h0 : 0 ≤ k) (h1 : k < n) : ∃ ad, A = some ad ∧ w.cell? (ad.add k.toNat) = some (.int .i64 (ix xs k)) := by
  obtain ⟨ad, c, e, _, hK, hc0⟩ := Kd.C_get h 0 k h0 h1
  have hc : c = [.int .i64 (ix xs k)] := hK
  subst hc
  have h2 := hc0 0 _ rfl
  exact ⟨ad, e, by have h3 : k.toNat * (Kd.int IntKind.i64).sz + 0 = k.toNat := by show k.toNat * 1 + 0 = k.toNat; omega
                   rw [h3] at h2; exact h2⟩
theorem int_at' {w : World} {ad : Addr} {n : Nat} {xs : List Int} (h : Kd.C (Kd.int .i64) w (some ad) n xs) (k : Int) (h0 : 0 ≤ k) (h1 : k < n) : w.cell? (ad.add k.toNat) = some (.int .i64 (ix xs k)) := by
  obtain ⟨ad', e, h2⟩ := int_at h k h0 h1
  cases e
  exact h2
theorem drop_ix {xs : List Int} {k : Int} (h0 : 0 ≤ k) (h1 : k < xs.length) : xs.drop k.toNat = ix xs k :: xs.drop (k + 1).toNat := by
  have hi : k.toNat < xs.length := by omega
  rw [show (k + 1).toNat = k.toNat + 1 by omega, List.drop_eq_getElem_cons hi]
  unfold ix
  rw [List.getD_eq_getElem?_getD, List.getElem?_eq_getElem hi]
  rfl
def pfx (xs : List Int) (k : Int) : List Nat := (xs.take k.toNat).map Int.toNat
theorem pfx_succ {xs : List Int} {k : Int} (h0 : 0 ≤ k) (h1 : k < xs.length) : pfx xs (k + 1) = pfx xs k ++ [(ix xs k).toNat] := by
  have hi : k.toNat < xs.length := by omega
  unfold pfx ix
  rw [show (k + 1).toNat = k.toNat + 1 by omega, List.take_succ_eq_append_getElem hi, List.map_append, List.getD_eq_getElem?_getD, List.getElem?_eq_getElem hi]
  rfl
theorem pfx_len {xs : List Int} {k : Int} (h0 : 0 ≤ k) (h1 : k ≤ xs.length) : (pfx xs k).length = k.toNat := by unfold pfx; simp; omega
/-- What an order's checks keep. -/
structure Hs (w : World) (n gi : Nat) (o : List Nat) (W : World) : Prop where
  hi : W.heap[gi]? = some (.cells (inV n o) 3 (0, 0))
  hb : Below w.heap.size w W
  bg : w.heap.size ≤ gi
theorem Hs.below {w : World} {n gi : Nat} {o : List Nat} {W W' : World} (h : Hs w n gi o W) (hb : Below W.heap.size W W') : Hs w n gi o W' := ⟨blk_below h.hi hb, h.hb.trans (hb.mono h.hb.size), h.bg⟩
theorem ord_step {l : List S39} {o : List Nat} {x : Int} {t : List Int} : ordB l o (x :: t) = (decide (0 ≤ x) && (decide (x < l.length) && (!o.contains x.toNat && (!((cl l x.toNat).f2 && !ansB (cl l x.toNat)) && ordB l (o ++ [x.toNat]) t)))) := rfl
theorem ans_use {X : S39} {b : Bool} (h : ∀ W : World, Calls Try.prog 42 #[.agg #[.int .i64 X.f0, .int .i64 X.f1, .bool X.f2, .string X.f3, .int .i64 X.f4.f0, .string X.f4.f1, .string X.f4.f2, .int .i64 X.f4.f3, .int .i64 X.f5, .int .i64 X.f6, .int .i64 X.f7.f0, .int .i64 X.f7.f1, .string X.f8.f0, .string X.f8.f1, .int .i64 X.f8.f2, .bool X.f9]] W fun e w' => e = .returned (.bool b) ∧ Below W.heap.size W w') (hf : X.f2 = true) (W : World) : Calls Try.prog 42 #[.agg #[.int .i64 X.f0, .int .i64 X.f1, .bool true, .string X.f3, .int .i64 X.f4.f0, .string X.f4.f1, .string X.f4.f2, .int .i64 X.f4.f3, .int .i64 X.f5, .int .i64 X.f6, .int .i64 X.f7.f0, .int .i64 X.f7.f1, .string X.f8.f0, .string X.f8.f1, .int .i64 X.f8.f2, .bool X.f9]] W fun e w' => e = .returned (.bool b) ∧ Below W.heap.size W w' := by
  have h2 := h W
  rw [hf] at h2
  exact h2
set_option maxRecDepth 100000 in
set_option maxHeartbeats 32000000 in
theorem order_any (w : World) (A Ax : Option Addr) (c cx : Nat) (l : List S39) (xs : List Int) (hr : Kd.C k39 w A l.length l) (hc : l.length ≤ c) (hx : Kd.C (Kd.int .i64) w Ax xs.length xs) (hcx : xs.length ≤ cx) (hn : l.length ≤ 1000000000000) (hnx : xs.length ≤ 100000000000000) :
    Calls Try.prog 58 #[.slice A l.length c, .slice Ax xs.length cx] w fun e w' => e = .returned (.bool (ordB l [] xs)) ∧ Below w.heap.size w w' := by
  have HR := Lib.hid hr
  have HX := Lib.hid hx
  have HN := Lib.hid (And.intro hn hnx)
  clear hr hx
  go_enter Try.func58, Try.ntmps58
  go_upto_region 2 with (first
    | ((with_reducible refine gate_dst (N := 10) rfl ?_); refine make_ints_event rfl _ _ rfl l.length rfl rfl HN.out.1 ?_; intro gi ei w1 hi bi; have H0 := Lib.hid (Hs.mk hi bi (Nat.le_of_eq ei.symm)); clear hi bi ei)
    | (fail))
  go_wp2
  go_loopw [13] (fun v13 wr => ∃ k : Int, v13 = .int .i64 k ∧ (0 ≤ k ∧ k ≤ (xs.length : Int)) ∧ RowKit.Hid (ordB l [] xs = ordB l (pfx xs k) (xs.drop k.toNat)) ∧ RowKit.Hid (Hs w l.length gi (pfx xs k) wr)) (fun v13 _ => ((xs.length : Int) - intOf v13).toNat)
  case atStart => exact ⟨0, rfl, ⟨by omega, by omega⟩, Lib.hid rfl, H0⟩
  case round =>
    clear H0
    obtain ⟨k, rfl, ⟨k0, k1⟩, HO, HS⟩ := hrel
    by_cases hlt : k < (xs.length : Int)
    · have c1 : decide (k < (xs.length : Int)) = true := decide_eq_true hlt
      have PK := Lib.hid (show 0 ≤ k ∧ k < (xs.length : Int) by omega)
      have pK := eq_true k0
      have qK := eq_true hlt
      have wi : wrap64 (k + 1) = k + 1 := by have h2 := HN.out; unfold wrap64; omega
      have wi2 : IntKind.i64.wrap (k + 1) = k + 1 := (i64_w _).trans wi
      obtain ⟨adx, eX, kx⟩ := int_at (Kd.C_below HX.out HS.out.hb) k k0 hlt
      cases eX
      have HP := Lib.hid (pfx_succ k0 hlt)
      have HD := Lib.hid (drop_ix k0 hlt)
      obtain ⟨o, ho⟩ : ∃ o, RowKit.Hid (pfx xs k = o) := ⟨_, Lib.hid rfl⟩
      obtain ⟨x, hxx⟩ : ∃ x, RowKit.Hid (ix xs k = x) := ⟨_, Lib.hid rfl⟩
      rw [hxx.out] at kx
      replace HO := Lib.hid (show ordB l [] xs = ordB l o (x :: xs.drop (k + 1).toNat) by rw [HO.out, HD.out, ho.out, hxx.out])
      replace HS := Lib.hid (show Hs w l.length gi o wr by rw [← ho.out]; exact HS.out)
      replace HP := Lib.hid (show pfx xs (k + 1) = o ++ [x.toNat] by rw [HP.out, ho.out, hxx.out])
      clear ho hxx HD k0 k1 hlt
      by_cases hx0 : x < 0
      · have d0 : decide (x < 0) = true := decide_eq_true hx0
        have HF := Lib.hid (show ordB l [] xs = false by rw [HO.out, ord_step, decide_eq_false (by omega)]; rfl)
        clear hx0
        go_wp2
        go_ret
        exact ⟨by rw [HF.out]; rfl, HS.out.hb⟩
      · have d0 : decide (x < 0) = false := decide_eq_false hx0
        by_cases hxn : x < (l.length : Int)
        · have d1 : decide ((l.length : Int) ≤ x) = false := decide_eq_false (by omega)
          have d2 : decide (x ≥ (l.length : Int)) = false := decide_eq_false (by omega)
          have PX := Lib.hid (show 0 ≤ x ∧ x < (l.length : Int) ∧ x.toNat < l.length by omega)
          have pX := eq_true PX.out.1
          have qX := eq_true PX.out.2.1
          obtain ⟨ad, eA, RK⟩ := row39 (Kd.C_below HR.out HS.out.hb) x PX.out.1 PX.out.2.1
          cases eA
          clear RK
          have HOR := Lib.hid (show ordB l [] xs = (!o.contains x.toNat && (!((rd_T39 l x).f2 && !ansB (rd_T39 l x)) && ordB l (o ++ [x.toNat]) (xs.drop (k + 1).toNat))) by rw [HO.out, ord_step, decide_eq_true PX.out.1, decide_eq_true PX.out.2.1]; rfl)
          clear hx0 hxn
          cases hoc : o.contains x.toNat with
          | true =>
            have ki : wr.cell? ⟨gi, x.toNat, none⟩ = some (.int .i64 1) := (blk_cell HS.out.hi _).trans ((inV_at PX.out.2.2).trans (by rw [if_pos hoc]))
            have HF := Lib.hid (show ordB l [] xs = false by rw [HOR.out, hoc]; rfl)
            clear hoc
            go_wp2
            go_ret
            exact ⟨by rw [HF.out]; rfl, HS.out.hb⟩
          | false =>
            have ki : wr.cell? ⟨gi, x.toNat, none⟩ = some (.int .i64 0) := (blk_cell HS.out.hi _).trans ((inV_at PX.out.2.2).trans (by rw [if_neg (by rw [hoc]; decide)]))
            have HOC := Lib.hid hoc
            have hf : wr.frozen? ⟨gi, x.toNat, none⟩ = false := blk_frozen HS.out.hi _
            cases hrd : (rd_T39 l x).f2 with
            | false =>
              obtain ⟨ad', eA', m0, m1, m2, m3⟩ := at_T39 (Kd.C_below HR.out HS.out.hb) x PX.out.1 PX.out.2.1
              cases eA'
              clear m0 m1 m3
              rw [hrd] at m2
              have HF := Lib.hid (show ordB l [] xs = ordB l (o ++ [x.toNat]) (xs.drop (k + 1).toNat) by rw [HOR.out, hoc, hrd]; rfl)
              clear hoc hrd
              go_wp2_with (first
                | ((with_reducible refine gate_store (t := 3) (p := 52) rfl ?_); refine store_cell_event rfl 3 (.tmp 52) (.tmp 51) rfl gi x.toNat (.int .i64 1) rfl rfl 3 _ HS.out.hi (by rw [inV_size]; exact PX.out.2.2) (by kernel_rfl) rfl rfl ?_; intro vs h_ q_; rw [inV_put PX.out.2.2] at h_; have HS2 := Lib.hid (Hs.mk h_ (below_of_grown HS.out.hb q_ HS.out.bg HS.out.hb.size) HS.out.bg); clear h_ q_)
                | (fail))
              go_roundw
              case rel => exact ⟨k + 1, by first | rfl | go_num, ⟨by have := PK.out; omega, by have := PK.out; omega⟩, by rw [HP.out]; exact HF, by rw [HP.out]; exact HS2⟩
              case measure => have := PK.out; simp [intOf]; omega
            | true =>
              have HA := Lib.hid (fun W => ans_any (rd_T39 l x) W)
              obtain ⟨ad', eA', m0, m1, m2, m3, m4, m5, m6, m7, m8, m9, m10, m11, m12, m13, m14, m15⟩ := at_T39 (Kd.C_below HR.out HS.out.hb) x PX.out.1 PX.out.2.1
              cases eA'
              cases ha : ansB (rd_T39 l x) with
              | false =>
                rw [ha] at HA
                have HF := Lib.hid (show ordB l [] xs = false by rw [HOR.out, hoc, hrd, ha]; rfl)
                have m2' := m2
                rw [hrd] at m2'
                have HRD := Lib.hid hrd
                clear hoc hrd ha m2
                have HB := HS
                go_wp2_with (first
                  | (go_at_call 42; (refine (ans_use HA.out HRD.out _).mono ?_); rintro e_ W_ ⟨rfl, hb⟩; replace HS := Lib.hid (HS.out.below hb); clear hb)
                  | (fail))
                go_ret
                exact ⟨by rw [HF.out]; rfl, HS.out.hb⟩
              | true =>
                rw [ha] at HA
                have HF := Lib.hid (show ordB l [] xs = ordB l (o ++ [x.toNat]) (xs.drop (k + 1).toNat) by rw [HOR.out, hoc, hrd, ha]; rfl)
                have m2' := m2
                rw [hrd] at m2'
                have HRD := Lib.hid hrd
                clear hoc hrd ha m2
                go_wp2_with (first
                  | (go_at_call 42; (refine (ans_use HA.out HRD.out _).mono ?_); rintro e_ W_ ⟨rfl, hb⟩; clear ki hf m0 m1 m2' m3 m4 m5 m6 m7 m8 m9 m10 m11 m12 m13 m14 m15; replace HS := Lib.hid (HS.out.below hb); have ki : W_.cell? ⟨gi, x.toNat, none⟩ = some (.int .i64 0) := (blk_cell HS.out.hi _).trans ((inV_at PX.out.2.2).trans (by rw [if_neg (by rw [HOC.out]; decide)])); clear hb)
                  | ((with_reducible refine gate_store (t := 3) (p := 52) rfl ?_); refine store_cell_event rfl 3 (.tmp 52) (.tmp 51) rfl gi x.toNat (.int .i64 1) rfl rfl 3 _ HS.out.hi (by rw [inV_size]; exact PX.out.2.2) (by kernel_rfl) rfl rfl ?_; intro vs h_ q_; rw [inV_put PX.out.2.2] at h_; have HS2 := Lib.hid (Hs.mk h_ (below_of_grown HS.out.hb q_ HS.out.bg HS.out.hb.size) HS.out.bg); clear h_ q_)
                  | (fail))
                go_roundw
                case rel => exact ⟨k + 1, by first | rfl | go_num, ⟨by have := PK.out; omega, by have := PK.out; omega⟩, by rw [HP.out]; exact HF, by rw [HP.out]; exact HS2⟩
                case measure => have := PK.out; simp [intOf]; omega
        · have d1 : decide ((l.length : Int) ≤ x) = true := decide_eq_true (by omega)
          have d2 : decide (x ≥ (l.length : Int)) = true := decide_eq_true (by omega)
          have HF := Lib.hid (show ordB l [] xs = false by rw [HO.out, ord_step, decide_eq_false hxn, Bool.false_and, Bool.and_false])
          clear hx0 hxn
          go_wp2
          go_ret
          exact ⟨by rw [HF.out]; rfl, HS.out.hb⟩
    · have hnl : decide (k < (xs.length : Int)) = false := decide_eq_false hlt
      have ek : k = (xs.length : Int) := by omega
      subst ek
      have HF := Lib.hid (show ordB l [] xs = true by rw [HO.out, List.drop_eq_nil_of_le (by omega)]; rfl)
      clear k0 k1 hlt
      go_wp2
      go_ret
      exact ⟨by rw [HF.out]; rfl, HS.out.hb⟩
theorem ordV_ints (o : List Nat) : ordV o = (o.map Int.ofNat).map (Value.int .i64) := by
  unfold ordV
  rw [List.map_map]
  rfl
theorem reps_ints (xs : List Int) : Reps (fun (x : Int) (cs : List Value) => cs = [Value.int .i64 x]) 1 xs (xs.map (Value.int .i64)) := by
  refine ⟨by simp, fun j p hj => ?_⟩
  obtain ⟨hl, hp⟩ := List.getElem?_eq_some_iff.1 hj
  have hl' : j < (xs.map (Value.int .i64)).length := by rw [List.length_map]; exact hl
  rw [Nat.mul_one, List.drop_eq_getElem_cons hl']
  simp [hp]
theorem ints_C {w : World} {B : Nat} {v : Value} {o : List Nat} (h : w.ownsRow B 3 1 v o.length (ordV o)) : ∃ A c, v = .slice A o.length c ∧ o.length ≤ c ∧ Kd.C (Kd.int .i64) w A (o.map Int.ofNat).length (o.map Int.ofNat) := by
  rw [ordV_ints] at h
  have h2 : Kd.R (Kd.int .i64) 3 w B (fun _ => True) v (o.map Int.ofNat) := ⟨fun _ _ => trivial, _, by rw [List.length_map]; exact h, reps_ints _⟩
  obtain ⟨A, c, e, hc, hC⟩ := Kd.R_reads h2
  exact ⟨A, c, by rw [e, List.length_map], by rw [List.length_map] at hc; exact hc, hC⟩
structure Hm (w : World) (n gi bm : Nat) (o : List Nat) (κ : KF) (cnt : Nat) (W : World) : Prop where
  hs : Hs w n gi o W
  hm : MapK W bm cnt κ
  bb : w.heap.size ≤ bm
  ne : gi ≠ bm
theorem Hm.below {w : World} {n gi bm : Nat} {o : List Nat} {κ : KF} {cnt : Nat} {W W' : World} (h : Hm w n gi bm o κ cnt W) (hb : Below W.heap.size W W') : Hm w n gi bm o κ cnt W' := ⟨h.hs.below hb, h.hm.kept (grown_of hb) (by simp), h.bb, h.ne⟩
theorem Hm.map {w : World} {n gi bm : Nat} {o : List Nat} {κ κ' : KF} {cnt cnt' : Nat} {W W' : World} (h : Hm w n gi bm o κ cnt W) (hk : Keep (· = bm) W W') (hm : MapK W' bm cnt' κ') : Hm w n gi bm o κ' cnt' W' :=
  ⟨⟨hk.blk h.hs.hi h.ne, below_of_grown h.hs.hb hk.grownB h.bb h.hs.hb.size, h.hs.bg⟩, hm, h.bb, h.ne⟩
theorem Hm.grown {w : World} {n gi bm : Nat} {o : List Nat} {κ : KF} {cnt : Nat} {W W' : World} (h : Hm w n gi bm o κ cnt W) {g : Nat} (hg : W.grownBy W' (some g)) (h0 : w.heap.size ≤ g) (h1 : g ≠ gi) (h2 : g ≠ bm) : Hm w n gi bm o κ cnt W' :=
  ⟨⟨blk_grown h.hs.hi hg (by intro e; injection e with e; exact h1 e.symm), below_of_grown h.hs.hb hg h0 h.hs.hb.size, h.hs.bg⟩, h.hm.kept hg (by intro e; injection e with e; exact h2 e.symm), h.bb, h.ne⟩
open Classical in
/-- What Holds answers. -/
noncomputable def hldA (l : List S39) (xs : List Int) : Int × Int := if refF l = 0 then (if ordB l [] xs = true then hldF l [] zK (xs.map Int.toNat) else (0, 1)) else (0, 260)
def AtH (w : World) (l : List S39) (xs : List Int) (gi bm : Nat) (k : Int) (W : World) : Prop :=
  ∃ κ cnt, cnt ≤ k.toNat ∧ hldF l [] zK (xs.map Int.toNat) = hldF l (pfx xs k) κ ((xs.drop k.toNat).map Int.toNat) ∧ ordB l (pfx xs k) (xs.drop k.toNat) = true ∧ Hm w l.length gi bm (pfx xs k) κ cnt W
def HldTo (w : World) (l : List S39) (xs : List Int) (e : Ending) (w' : World) : Prop := e = .returned (.tuple #[.int .i64 (hldA l xs).1, .int .i64 (hldA l xs).2]) ∧ Below w.heap.size w w'
theorem hld_to {w : World} {l : List S39} {xs : List Int} {a b : Int} (h : hldA l xs = (a, b)) {w' : World} (hb : Below w.heap.size w w') : HldTo w l xs (.returned (.tuple #[.int .i64 a, .int .i64 b])) w' := by
  unfold HldTo
  rw [h]
  exact ⟨rfl, hb⟩
theorem whl_no {l : List S39} {o : List Nat} {k : Int} (h0 : 0 ≤ k) (h1 : k < l.length) (ha : ansB (rd_T39 l k) = true) (hc : o.contains k.toNat = false) : whlB l o = false := by
  rw [Bool.eq_false_iff]
  intro h
  have h2 := whlB_iff.mp h k.toNat (by omega) ha
  rw [← List.contains_iff_mem, hc] at h2
  cases h2
theorem whl_yes {l : List S39} {o : List Nat} (h : ∀ j : Nat, (j : Int) < l.length → ansB (cl l j) = true → o.contains j = true) : whlB l o = true := by
  rw [whlB_iff]
  intro k hk ha
  exact List.contains_iff_mem.mp (h k (by omega) ha)
set_option maxRecDepth 100000 in
set_option maxHeartbeats 64000000 in
theorem holds_any (w : World) (A Ax : Option Addr) (c cx : Nat) (l : List S39) (xs : List Int) (hr : Kd.C k39 w A l.length l) (hc : l.length ≤ c) (hx : Kd.C (Kd.int .i64) w Ax xs.length xs) (hcx : xs.length ≤ cx) (hn : l.length ≤ 1000000000000) (hnx : xs.length ≤ 100000000000000) (hwf : ∀ x ∈ l, wfC x) (hks : ∀ i : Int, 0 ≤ i → i < l.length → (rd_T39 l i).f3.size ≤ maxLen) :
    Calls Try.prog 36 #[.slice A l.length c, .slice Ax xs.length cx] w fun e w' => HldTo w l xs e w' := by
  have HCHK := Lib.hid (fun r (h : refF l = r) => linear_Check.calls A c l r w hr hc (by unfold linear_Check.f; rw [if_pos ⟨hn, hwf⟩, h]))
  have HR := Lib.hid hr
  have HX := Lib.hid hx
  have HC := Lib.hid hc
  have HCX := Lib.hid hcx
  have HN := Lib.hid (And.intro hn hnx)
  have HKK := Lib.hid hks
  clear hr hx hwf hks hn hnx
  rcases ref_two l with he | he
  · have HCH := Lib.hid (HCHK.out 0 he)
    have HORD := Lib.hid (fun W (hW : Below w.heap.size w W) => order_any W A Ax c cx l xs (Kd.C_below HR.out hW) HC.out (Kd.C_below HX.out hW) HCX.out HN.out.1 HN.out.2)
    cases hord : ordB l [] xs with
    | false =>
      rw [hord] at HORD
      have HE := Lib.hid (show hldA l xs = (0, 1) by unfold hldA; rw [if_pos he, if_neg (by rw [hord]; decide)])
      clear he hord
      go_enter Try.func36, Try.ntmps36
      go_wp2_with (first
        | (go_at_call 16; (with_reducible refine HCH.out.mono ?_); rintro e_ W_ ⟨rfl, hb⟩; have HB := Lib.hid hb; clear hb)
        | (go_at_call 58; (with_reducible refine (HORD.out _ HB.out).mono ?_); rintro e_ W_ ⟨rfl, hb⟩; replace HB := Lib.hid (below_step HB.out hb); clear hb)
        | (fail))
      go_ret2
      exact hld_to HE.out HB.out
    | true =>
      rw [hord] at HORD
      have HE := Lib.hid (show hldA l xs = hldF l [] zK (xs.map Int.toNat) by unfold hldA; rw [if_pos he, if_pos hord])
      have HOT := Lib.hid hord
      clear he hord
      go_enter Try.func36, Try.ntmps36
      go_upto_region 8 with (first
        | (go_at_call 16; (with_reducible refine HCH.out.mono ?_); rintro e_ W_ ⟨rfl, hb⟩; have HB := Lib.hid hb; clear hb)
        | (go_at_call 58; (with_reducible refine (HORD.out _ HB.out).mono ?_); rintro e_ W_ ⟨rfl, hb⟩; replace HB := Lib.hid (below_step HB.out hb); clear hb)
        | ((with_reducible refine gate_dst (N := 26) rfl ?_); refine make_ints_event rfl _ _ rfl l.length rfl rfl HN.out.1 ?_; intro gi ei w1 hi bi; have H0 := Lib.hid (Hs.mk hi (below_step HB.out bi) (Nat.le_trans HB.out.size (Nat.le_of_eq ei.symm))); clear hi bi ei HB)
        | ((with_reducible refine gate_dst (N := 27) rfl ?_); refine make_map_event rfl rfl ?_; intro bm em w2 hm bm2; have H1 := Lib.hid (Hm.mk (H0.out.below bm2) hm (Nat.le_trans H0.out.hb.size (Nat.le_of_eq em.symm)) (by have := blk_lt H0.out.hi; omega)); clear hm bm2 em H0)
        | (fail))
      go_wp2
      go_loopw [30] (fun v30 wr => ∃ k : Int, v30 = .int .i64 k ∧ (0 ≤ k ∧ k ≤ (xs.length : Int)) ∧ RowKit.Hid (AtH w l xs gi bm k wr)) (fun v30 _ => ((xs.length : Int) - intOf v30).toNat)
      case atStart => exact ⟨0, rfl, ⟨by omega, by omega⟩, Lib.hid ⟨zK, 0, by omega, rfl, HOT.out, H1.out⟩⟩
      case round =>
        clear H1
        obtain ⟨k, rfl, ⟨k0, k1⟩, HAT⟩ := hrel
        obtain ⟨κ, cnt, hcnt, hhl, hod, hhm⟩ := HAT.out
        have HCN := Lib.hid hcnt
        have HL := Lib.hid hhl
        have HOD := Lib.hid hod
        have HM := Lib.hid hhm
        clear hcnt hhl hod hhm HAT
        by_cases hlt : k < (xs.length : Int)
        · have c1 : decide (k < (xs.length : Int)) = true := decide_eq_true hlt
          have PK := Lib.hid (show 0 ≤ k ∧ k < (xs.length : Int) by omega)
          have pK := eq_true k0
          have qK := eq_true hlt
          have wi : wrap64 (k + 1) = k + 1 := by have h2 := HN.out; unfold wrap64; omega
          have wi2 : IntKind.i64.wrap (k + 1) = k + 1 := (i64_w _).trans wi
          obtain ⟨adx, eX, kx⟩ := int_at (Kd.C_below HX.out HM.out.hs.hb) k k0 hlt
          cases eX
          have HP := Lib.hid (pfx_succ k0 hlt)
          have HPL := Lib.hid (pfx_len k0 (Int.le_of_lt hlt))
          have HD := Lib.hid (drop_ix k0 hlt)
          obtain ⟨o, ho⟩ : ∃ o, RowKit.Hid (pfx xs k = o) := ⟨_, Lib.hid rfl⟩
          obtain ⟨x, hxx⟩ : ∃ x, RowKit.Hid (ix xs k = x) := ⟨_, Lib.hid rfl⟩
          rw [hxx.out] at kx
          replace HL := Lib.hid (show hldF l [] zK (xs.map Int.toNat) = hldF l o κ (x.toNat :: (xs.drop (k + 1).toNat).map Int.toNat) by rw [HL.out, HD.out, ho.out, hxx.out]; rfl)
          have hod : ordB l o (x :: xs.drop (k + 1).toNat) = true := by rw [← ho.out, ← hxx.out, ← HD.out]; exact HOD.out
          rw [ord_step] at hod
          simp only [Bool.and_eq_true, decide_eq_true_eq] at hod
          obtain ⟨x0, x1, x2, x3, x4⟩ := hod
          replace HM := Lib.hid (show Hm w l.length gi bm o κ cnt wr by rw [← ho.out]; exact HM.out)
          replace HP := Lib.hid (show pfx xs (k + 1) = o ++ [x.toNat] by rw [HP.out, ho.out, hxx.out])
          replace HPL := Lib.hid (show (o.length : Int) = k by have h := HPL.out; rw [ho.out] at h; omega)
          have PX := Lib.hid (show 0 ≤ x ∧ x < (l.length : Int) ∧ x.toNat < l.length by omega)
          have HOC := Lib.hid (show o.contains x.toNat = false by simpa using x2)
          replace HOD := Lib.hid x4
          have pX := eq_true PX.out.1
          have qX := eq_true PX.out.2.1
          clear ho hxx HD k0 k1 hlt x0 x1 x2 x3 x4
          obtain ⟨ad, eA, RK⟩ := row39 (Kd.C_below HR.out HM.out.hs.hb) x PX.out.1 PX.out.2.1
          cases eA
          clear RK
          have HRY := Lib.hid (ready_any wr (some ad) c l.length gi l o x (Kd.C_below HR.out HM.out.hs.hb) HC.out HM.out.hs.hi (Nat.le_refl _) HN.out.1 PX.out.1 PX.out.2.1)
          cases hy : rdyB l o x.toNat with
          | false =>
            rw [hy] at HRY
            have HF := Lib.hid (show hldA l xs = (k, 262) by rw [HE.out, HL.out, hldF, if_neg (by rw [hy]; decide), HPL.out])
            clear hy
            go_wp2_with (first
              | (go_at_call 59; (with_reducible refine HRY.out.mono ?_); rintro e_ W_ ⟨rfl, hb⟩; replace HM := Lib.hid (HM.out.below hb); clear hb)
              | (fail))
            go_ret2
            exact hld_to HF.out HM.out.hs.hb
          | true =>
            rw [hy] at HRY
            have HKS := Lib.hid (HKK.out x PX.out.1 PX.out.2.1)
            obtain ⟨c0, HC0⟩ : ∃ q, RowKit.Hid (κ (rd_T39 l x).f3.toList = q) := ⟨_, Lib.hid rfl⟩
            cases hok : (hapF c0 (rd_T39 l x)).2 with
            | false =>
              have HST := Lib.hid (fun W (hM : MapK W bm cnt κ) => (by
                have h := step_any W bm cnt κ (rd_T39 l x) HKS.out hM (by have h1 := HCN.out; have h2 := PK.out; have h3 := HN.out; unfold maxLen; omega)
                rw [HC0.out, hok] at h
                exact h : Calls Try.prog 60 #[.map (some bm), .agg #[.int .i64 (rd_T39 l x).f0, .int .i64 (rd_T39 l x).f1, .bool (rd_T39 l x).f2, .string (rd_T39 l x).f3, .int .i64 (rd_T39 l x).f4.f0, .string (rd_T39 l x).f4.f1, .string (rd_T39 l x).f4.f2, .int .i64 (rd_T39 l x).f4.f3, .int .i64 (rd_T39 l x).f5, .int .i64 (rd_T39 l x).f6, .int .i64 (rd_T39 l x).f7.f0, .int .i64 (rd_T39 l x).f7.f1, .string (rd_T39 l x).f8.f0, .string (rd_T39 l x).f8.f1, .int .i64 (rd_T39 l x).f8.f2, .bool (rd_T39 l x).f9]] W fun e w' => e = .returned (.tuple #[.agg #[.bool c0.f0, .string c0.f1, .int .i64 c0.f2, .int .i64 c0.f3, .int .i64 c0.f4], .bool false]) ∧ StepTo W bm cnt κ (rd_T39 l x) w'))
              have HF := Lib.hid (show hldA l xs = (k, 262) by rw [HE.out, HL.out, hldF, if_pos hy, if_neg (by show ¬ (hapF (κ (rd_T39 l x).f3.toList) (rd_T39 l x)).2 = true; rw [HC0.out, hok]; decide), HPL.out])
              clear hok hy
              go_wp2_with (first
                | (go_at_call 59; (with_reducible refine HRY.out.mono ?_); rintro e_ W_ ⟨rfl, hb⟩; replace HM := Lib.hid (HM.out.below hb); clear hb)
                | ((with_reducible refine gate_dst (N := 46) rfl ?_); refine wpList_load_p rfl 39 (.tmp 45) rfl (ad.add (x.toNat * 16)) rfl [.int .i64 (rd_T39 l x).f0, .int .i64 (rd_T39 l x).f1, .bool (rd_T39 l x).f2, .string (rd_T39 l x).f3, .int .i64 (rd_T39 l x).f4.f0, .string (rd_T39 l x).f4.f1, .string (rd_T39 l x).f4.f2, .int .i64 (rd_T39 l x).f4.f3, .int .i64 (rd_T39 l x).f5, .int .i64 (rd_T39 l x).f6, .int .i64 (rd_T39 l x).f7.f0, .int .i64 (rd_T39 l x).f7.f1, .string (rd_T39 l x).f8.f0, .string (rd_T39 l x).f8.f1, .int .i64 (rd_T39 l x).f8.f2, .bool (rd_T39 l x).f9] _ (row39' (Kd.C_below HR.out HM.out.hs.hb) x PX.out.1 PX.out.2.1) Try.underlying39 rfl (by kernel_rfl) ?_)
                | (go_at_call 60; (with_reducible refine (HST.out _ HM.out.hm).mono ?_); rintro e_ W2_ ⟨rfl, hst⟩; unfold StepTo at hst; obtain ⟨hk_, k5, k51, k52, hm5⟩ := hst; have HM2 := Lib.hid (HM.out.map hk_ hm5); have HK5 := Lib.hid (And.intro k51 k52); clear hk_ k51 k52 hm5; clear HM; have HM := HM2; clear HM2)
                | ((with_reducible refine gate_dst (N := 11) rfl ?_); refine box_event rfl (N := 11) rfl (cs := #[.bool false, .string ⟨#[]⟩, .int .i64 0, .int .i64 0, .int .i64 0]) (t := 130) (by first | (go_simp; done) | (go_simp; rfl)) ?_; intro g11 e11 w11 h11 b11; have N11 := Lib.hid (show w.heap.size ≤ g11 ∧ g11 ≠ gi ∧ g11 ≠ bm by have h1 := blk_lt HM.out.hs.hi; have h2 := HM.out.hm.lt; have h3 := HM.out.hs.hb.size; omega); replace HM := Lib.hid (HM.out.below b11); have B11 := Lib.hid h11; clear h11 b11 e11)
                | ((with_reducible refine gate_store (t := 130) (p := 11) rfl ?_); refine store_row_event rfl 130 (.tmp 11) (.tmp 48) rfl g11 #[.bool c0.f0, .string c0.f1, .int .i64 c0.f2, .int .i64 c0.f3, .int .i64 c0.f4] rfl rfl 130 _ B11.out (by kernel_rfl) rfl (by simp [Value.oneCell']) ?_; intro v11 h11 q11; replace HM := Lib.hid (HM.out.grown q11 N11.out.1 N11.out.2.1 N11.out.2.2); clear h11 q11 B11)
                | (fail))
              go_ret2
              exact hld_to HF.out HM.out.hs.hb
            | true =>
              have HST := Lib.hid (fun W (hM : MapK W bm cnt κ) => (by
                have h := step_any W bm cnt κ (rd_T39 l x) HKS.out hM (by have h1 := HCN.out; have h2 := PK.out; have h3 := HN.out; unfold maxLen; omega)
                rw [HC0.out, hok] at h
                exact h : Calls Try.prog 60 #[.map (some bm), .agg #[.int .i64 (rd_T39 l x).f0, .int .i64 (rd_T39 l x).f1, .bool (rd_T39 l x).f2, .string (rd_T39 l x).f3, .int .i64 (rd_T39 l x).f4.f0, .string (rd_T39 l x).f4.f1, .string (rd_T39 l x).f4.f2, .int .i64 (rd_T39 l x).f4.f3, .int .i64 (rd_T39 l x).f5, .int .i64 (rd_T39 l x).f6, .int .i64 (rd_T39 l x).f7.f0, .int .i64 (rd_T39 l x).f7.f1, .string (rd_T39 l x).f8.f0, .string (rd_T39 l x).f8.f1, .int .i64 (rd_T39 l x).f8.f2, .bool (rd_T39 l x).f9]] W fun e w' => e = .returned (.tuple #[.agg #[.bool c0.f0, .string c0.f1, .int .i64 c0.f2, .int .i64 c0.f3, .int .i64 c0.f4], .bool true]) ∧ StepTo W bm cnt κ (rd_T39 l x) w'))
              have HNX := Lib.hid (show hldF l [] zK (xs.map Int.toNat) = hldF l (o ++ [x.toNat]) (updK κ (rd_T39 l x).f3.toList (hapF (κ (rd_T39 l x).f3.toList) (rd_T39 l x)).1) ((xs.drop (k + 1).toNat).map Int.toNat) by
                rw [HL.out, hldF, if_pos hy, if_pos (by show (hapF (κ (rd_T39 l x).f3.toList) (rd_T39 l x)).2 = true; rw [HC0.out]; exact hok)]; rfl)
              have HKU := Lib.hid (show (hapF (κ (rd_T39 l x).f3.toList) (rd_T39 l x)).2 = true by rw [HC0.out]; exact hok)
              clear hok hy
              go_wp2_with (first
                | (go_at_call 59; (with_reducible refine HRY.out.mono ?_); rintro e_ W_ ⟨rfl, hb⟩; replace HM := Lib.hid (HM.out.below hb); clear hb)
                | ((with_reducible refine gate_dst (N := 46) rfl ?_); refine wpList_load_p rfl 39 (.tmp 45) rfl (ad.add (x.toNat * 16)) rfl [.int .i64 (rd_T39 l x).f0, .int .i64 (rd_T39 l x).f1, .bool (rd_T39 l x).f2, .string (rd_T39 l x).f3, .int .i64 (rd_T39 l x).f4.f0, .string (rd_T39 l x).f4.f1, .string (rd_T39 l x).f4.f2, .int .i64 (rd_T39 l x).f4.f3, .int .i64 (rd_T39 l x).f5, .int .i64 (rd_T39 l x).f6, .int .i64 (rd_T39 l x).f7.f0, .int .i64 (rd_T39 l x).f7.f1, .string (rd_T39 l x).f8.f0, .string (rd_T39 l x).f8.f1, .int .i64 (rd_T39 l x).f8.f2, .bool (rd_T39 l x).f9] _ (row39' (Kd.C_below HR.out HM.out.hs.hb) x PX.out.1 PX.out.2.1) Try.underlying39 rfl (by kernel_rfl) ?_)
                | (go_at_call 60; (with_reducible refine (HST.out _ HM.out.hm).mono ?_); rintro e_ W2_ ⟨rfl, hst⟩; unfold StepTo at hst; obtain ⟨hk_, k5, k51, k52, hm5⟩ := hst; have HM2 := Lib.hid (HM.out.map hk_ hm5); have HK5 := Lib.hid (And.intro k51 k52); clear hk_ k51 k52 hm5; clear HM; have HM := HM2; clear HM2)
                | ((with_reducible refine gate_dst (N := 11) rfl ?_); refine box_event rfl (N := 11) rfl (cs := #[.bool false, .string ⟨#[]⟩, .int .i64 0, .int .i64 0, .int .i64 0]) (t := 130) (by first | (go_simp; done) | (go_simp; rfl)) ?_; intro g11 e11 w11 h11 b11; have N11 := Lib.hid (show w.heap.size ≤ g11 ∧ g11 ≠ gi ∧ g11 ≠ bm by have h1 := blk_lt HM.out.hs.hi; have h2 := HM.out.hm.lt; have h3 := HM.out.hs.hb.size; omega); replace HM := Lib.hid (HM.out.below b11); have B11 := Lib.hid h11; clear h11 b11 e11)
                | ((with_reducible refine gate_store (t := 130) (p := 11) rfl ?_); refine store_row_event rfl 130 (.tmp 11) (.tmp 48) rfl g11 #[.bool c0.f0, .string c0.f1, .int .i64 c0.f2, .int .i64 c0.f3, .int .i64 c0.f4] rfl rfl 130 _ B11.out (by kernel_rfl) rfl (by simp [Value.oneCell']) ?_; intro v11 h11 q11; replace HM := Lib.hid (HM.out.grown q11 N11.out.1 N11.out.2.1 N11.out.2.2); clear h11 q11 B11)
                | ((with_reducible refine gate_dst (N := 56) rfl ?_); refine wpList_load_cell rfl 3 (.tmp 55) rfl gi x.toNat rfl _ _ HM.out.hs.hi (.int .i64 0) ((inV_at PX.out.2.2).trans (by rw [HOC.out]; rfl)) _ Try.underlying3 rfl ?_)
                | ((with_reducible refine gate_store (t := 3) (p := 58) rfl ?_); refine store_cell_event rfl 3 (.tmp 58) (.tmp 57) rfl gi x.toNat (.int .i64 1) rfl rfl 3 _ HM.out.hs.hi (by rw [inV_size]; exact PX.out.2.2) (by kernel_rfl) rfl rfl ?_; intro vs h_ q_; rw [inV_put PX.out.2.2] at h_; have HM3 := Lib.hid (Hm.mk (Hs.mk h_ (below_of_grown HM.out.hs.hb q_ HM.out.hs.bg HM.out.hs.hb.size) HM.out.hs.bg) (by have h := HM.out.hm.kept q_ (by intro e; injection e with e; exact HM.out.ne e.symm); rw [if_pos HKU.out] at h; exact h) HM.out.bb HM.out.ne); clear h_ q_)
                | (fail))
              go_roundw
              case rel => exact ⟨k + 1, by first | rfl | go_num, ⟨by have := PK.out; omega, by have := PK.out; omega⟩, Lib.hid ⟨_, k5, by have h1 := HK5.out; have h2 := HCN.out; have h3 := PK.out; omega, by rw [HP.out]; exact HNX.out, by rw [HP.out]; exact HOD.out, by rw [HP.out]; exact HM3.out⟩⟩
              case measure => have := PK.out; simp [intOf]; omega
        · have hnl : decide (k < (xs.length : Int)) = false := decide_eq_false hlt
          have ek : k = (xs.length : Int) := by omega
          subst ek
          obtain ⟨o, ho⟩ : ∃ o, RowKit.Hid (pfx xs (xs.length : Int) = o) := ⟨_, Lib.hid rfl⟩
          have HOL := Lib.hid (show (o.length : Int) = xs.length by rw [← ho.out, pfx_len (by omega) (by omega)]; omega)
          replace HM := Lib.hid (show Hm w l.length gi bm o κ cnt wr by rw [← ho.out]; exact HM.out)
          replace HL := Lib.hid (show hldA l xs = if whlB l o = true then (0, 0) else ((xs.length : Int), 262) by rw [HE.out, HL.out, ho.out, List.drop_eq_nil_of_le (by omega), List.map_nil, hldF, HOL.out])
          clear k0 k1 hlt ho HOD HCN
          go_wp2
          go_loopw [62] (fun v62 wq => ∃ k : Int, v62 = .int .i64 k ∧ (0 ≤ k ∧ k ≤ (l.length : Int)) ∧ RowKit.Hid (∀ j : Nat, (j : Int) < k → ansB (cl l j) = true → o.contains j = true) ∧ RowKit.Hid (Hm w l.length gi bm o κ cnt wq)) (fun v62 _ => ((l.length : Int) - intOf v62).toNat)
          case atStart => exact ⟨0, rfl, ⟨by omega, by omega⟩, Lib.hid (fun j hj => by omega), HM⟩
          case round =>
            clear HM
            obtain ⟨k, rfl, ⟨k0, k1⟩, HJ, HM⟩ := hrel
            by_cases hlt : k < (l.length : Int)
            · have c1 : decide (k < (l.length : Int)) = true := decide_eq_true hlt
              have PK := Lib.hid (show 0 ≤ k ∧ k < (l.length : Int) ∧ k.toNat < l.length by omega)
              have pK := eq_true k0
              have qK := eq_true hlt
              have wi : wrap64 (k + 1) = k + 1 := by have h2 := HN.out; unfold wrap64; omega
              have wi2 : IntKind.i64.wrap (k + 1) = k + 1 := (i64_w _).trans wi
              obtain ⟨ad, eA, RK⟩ := row39 (Kd.C_below HR.out HM.out.hs.hb) k k0 hlt
              cases eA
              have RK := Lib.hid RK
              have HA := Lib.hid (fun W => ans_any (rd_T39 l k) W)
              clear k0 k1 hlt
              cases ha : ansB (rd_T39 l k) with
              | false =>
                rw [ha] at HA
                have HJ2 : RowKit.Hid (∀ j : Nat, (j : Int) < k + 1 → ansB (cl l j) = true → o.contains j = true) := Lib.hid (fun j hj haj => by
                  by_cases e : (j : Int) = k
                  · have h : ansB (rd_T39 l (j : Int)) = true := haj
                    rw [e, ha] at h
                    cases h
                  · exact HJ.out j (by omega) haj)
                clear ha
                go_wp2_with (first
                  | ((with_reducible refine gate_dst (N := 66) rfl ?_); refine wpList_load_p rfl 39 (.tmp 65) rfl (ad.add (k.toNat * 16)) rfl [.int .i64 (rd_T39 l k).f0, .int .i64 (rd_T39 l k).f1, .bool (rd_T39 l k).f2, .string (rd_T39 l k).f3, .int .i64 (rd_T39 l k).f4.f0, .string (rd_T39 l k).f4.f1, .string (rd_T39 l k).f4.f2, .int .i64 (rd_T39 l k).f4.f3, .int .i64 (rd_T39 l k).f5, .int .i64 (rd_T39 l k).f6, .int .i64 (rd_T39 l k).f7.f0, .int .i64 (rd_T39 l k).f7.f1, .string (rd_T39 l k).f8.f0, .string (rd_T39 l k).f8.f1, .int .i64 (rd_T39 l k).f8.f2, .bool (rd_T39 l k).f9] _ RK.out Try.underlying39 rfl (by kernel_rfl) ?_)
                  | ((with_reducible refine gate_dst (N := 14) rfl ?_); refine box_event rfl (N := 14) rfl (cs := #[.int .i64 0, .int .i64 0, .bool false, .string ⟨#[]⟩, .int .i64 0, .string ⟨#[]⟩, .string ⟨#[]⟩, .int .i64 0, .int .i64 0, .int .i64 0, .int .i64 0, .int .i64 0, .string ⟨#[]⟩, .string ⟨#[]⟩, .int .i64 0, .bool false]) (t := 39) (by first | (go_simp; done) | (go_simp; rfl)) ?_; intro g14 e14 w14 h14 b14; have N14 := Lib.hid (show w.heap.size ≤ g14 ∧ g14 ≠ gi ∧ g14 ≠ bm by have h1 := blk_lt HM.out.hs.hi; have h2 := HM.out.hm.lt; have h3 := HM.out.hs.hb.size; omega); replace HM := Lib.hid (HM.out.below b14); have B14 := Lib.hid h14; clear h14 b14 e14)
                  | ((with_reducible refine gate_store (t := 39) (p := 14) rfl ?_); refine store_row_event rfl 39 (.tmp 14) (.tmp 66) rfl g14 #[.int .i64 (rd_T39 l k).f0, .int .i64 (rd_T39 l k).f1, .bool (rd_T39 l k).f2, .string (rd_T39 l k).f3, .int .i64 (rd_T39 l k).f4.f0, .string (rd_T39 l k).f4.f1, .string (rd_T39 l k).f4.f2, .int .i64 (rd_T39 l k).f4.f3, .int .i64 (rd_T39 l k).f5, .int .i64 (rd_T39 l k).f6, .int .i64 (rd_T39 l k).f7.f0, .int .i64 (rd_T39 l k).f7.f1, .string (rd_T39 l k).f8.f0, .string (rd_T39 l k).f8.f1, .int .i64 (rd_T39 l k).f8.f2, .bool (rd_T39 l k).f9] rfl rfl 39 _ B14.out (by kernel_rfl) rfl (by simp [Value.oneCell']) ?_; intro v14 h14 q14; replace HM := Lib.hid (HM.out.grown q14 N14.out.1 N14.out.2.1 N14.out.2.2); replace B14 := Lib.hid h14; clear h14 q14)
                  | ((with_reducible refine gate_dst (N := 67) rfl ?_); refine wpList_load_row rfl 39 (.tmp 14) rfl g14 rfl 39 #[.int .i64 (rd_T39 l k).f0, .int .i64 (rd_T39 l k).f1, .bool (rd_T39 l k).f2, .string (rd_T39 l k).f3, .int .i64 (rd_T39 l k).f4.f0, .string (rd_T39 l k).f4.f1, .string (rd_T39 l k).f4.f2, .int .i64 (rd_T39 l k).f4.f3, .int .i64 (rd_T39 l k).f5, .int .i64 (rd_T39 l k).f6, .int .i64 (rd_T39 l k).f7.f0, .int .i64 (rd_T39 l k).f7.f1, .string (rd_T39 l k).f8.f0, .string (rd_T39 l k).f8.f1, .int .i64 (rd_T39 l k).f8.f2, .bool (rd_T39 l k).f9] (0, 0) _ B14.out Try.underlying39 rfl (by kernel_rfl) ?_)
                  | (go_at_call 42; (with_reducible refine (HA.out _).mono ?_); rintro e_ W_ ⟨rfl, hb⟩; replace HM := Lib.hid (HM.out.below hb); clear hb)
                  | (fail))
                go_roundw
                case rel => exact ⟨k + 1, by first | rfl | go_num, ⟨by have := PK.out; omega, by have := PK.out; omega⟩, HJ2, HM⟩
                case measure => have := PK.out; simp [intOf]; omega
              | true =>
                rw [ha] at HA
                cases hoc : o.contains k.toNat with
                | false =>
                  have HF := Lib.hid (show hldA l xs = ((xs.length : Int), 262) by rw [HL.out, if_neg (by rw [whl_no PK.out.1 PK.out.2.1 ha hoc]; decide)])
                  have HV := Lib.hid ((inV_at (o := o) PK.out.2.2).trans (by rw [if_neg (by rw [hoc]; decide)] : _ = some (Value.int .i64 0)))
                  clear ha hoc
                  go_wp2_with (first
                    | ((with_reducible refine gate_dst (N := 66) rfl ?_); refine wpList_load_p rfl 39 (.tmp 65) rfl (ad.add (k.toNat * 16)) rfl [.int .i64 (rd_T39 l k).f0, .int .i64 (rd_T39 l k).f1, .bool (rd_T39 l k).f2, .string (rd_T39 l k).f3, .int .i64 (rd_T39 l k).f4.f0, .string (rd_T39 l k).f4.f1, .string (rd_T39 l k).f4.f2, .int .i64 (rd_T39 l k).f4.f3, .int .i64 (rd_T39 l k).f5, .int .i64 (rd_T39 l k).f6, .int .i64 (rd_T39 l k).f7.f0, .int .i64 (rd_T39 l k).f7.f1, .string (rd_T39 l k).f8.f0, .string (rd_T39 l k).f8.f1, .int .i64 (rd_T39 l k).f8.f2, .bool (rd_T39 l k).f9] _ RK.out Try.underlying39 rfl (by kernel_rfl) ?_)
                    | ((with_reducible refine gate_dst (N := 14) rfl ?_); refine box_event rfl (N := 14) rfl (cs := #[.int .i64 0, .int .i64 0, .bool false, .string ⟨#[]⟩, .int .i64 0, .string ⟨#[]⟩, .string ⟨#[]⟩, .int .i64 0, .int .i64 0, .int .i64 0, .int .i64 0, .int .i64 0, .string ⟨#[]⟩, .string ⟨#[]⟩, .int .i64 0, .bool false]) (t := 39) (by first | (go_simp; done) | (go_simp; rfl)) ?_; intro g14 e14 w14 h14 b14; have N14 := Lib.hid (show w.heap.size ≤ g14 ∧ g14 ≠ gi ∧ g14 ≠ bm by have h1 := blk_lt HM.out.hs.hi; have h2 := HM.out.hm.lt; have h3 := HM.out.hs.hb.size; omega); replace HM := Lib.hid (HM.out.below b14); have B14 := Lib.hid h14; clear h14 b14 e14)
                    | ((with_reducible refine gate_store (t := 39) (p := 14) rfl ?_); refine store_row_event rfl 39 (.tmp 14) (.tmp 66) rfl g14 #[.int .i64 (rd_T39 l k).f0, .int .i64 (rd_T39 l k).f1, .bool (rd_T39 l k).f2, .string (rd_T39 l k).f3, .int .i64 (rd_T39 l k).f4.f0, .string (rd_T39 l k).f4.f1, .string (rd_T39 l k).f4.f2, .int .i64 (rd_T39 l k).f4.f3, .int .i64 (rd_T39 l k).f5, .int .i64 (rd_T39 l k).f6, .int .i64 (rd_T39 l k).f7.f0, .int .i64 (rd_T39 l k).f7.f1, .string (rd_T39 l k).f8.f0, .string (rd_T39 l k).f8.f1, .int .i64 (rd_T39 l k).f8.f2, .bool (rd_T39 l k).f9] rfl rfl 39 _ B14.out (by kernel_rfl) rfl (by simp [Value.oneCell']) ?_; intro v14 h14 q14; replace HM := Lib.hid (HM.out.grown q14 N14.out.1 N14.out.2.1 N14.out.2.2); replace B14 := Lib.hid h14; clear h14 q14)
                    | ((with_reducible refine gate_dst (N := 67) rfl ?_); refine wpList_load_row rfl 39 (.tmp 14) rfl g14 rfl 39 #[.int .i64 (rd_T39 l k).f0, .int .i64 (rd_T39 l k).f1, .bool (rd_T39 l k).f2, .string (rd_T39 l k).f3, .int .i64 (rd_T39 l k).f4.f0, .string (rd_T39 l k).f4.f1, .string (rd_T39 l k).f4.f2, .int .i64 (rd_T39 l k).f4.f3, .int .i64 (rd_T39 l k).f5, .int .i64 (rd_T39 l k).f6, .int .i64 (rd_T39 l k).f7.f0, .int .i64 (rd_T39 l k).f7.f1, .string (rd_T39 l k).f8.f0, .string (rd_T39 l k).f8.f1, .int .i64 (rd_T39 l k).f8.f2, .bool (rd_T39 l k).f9] (0, 0) _ B14.out Try.underlying39 rfl (by kernel_rfl) ?_)
                    | (go_at_call 42; (with_reducible refine (HA.out _).mono ?_); rintro e_ W_ ⟨rfl, hb⟩; replace HM := Lib.hid (HM.out.below hb); have kq := (blk_cell HM.out.hs.hi k.toNat).trans HV.out; clear hb)
                    | (fail))
                  go_ret2
                  exact hld_to HF.out HM.out.hs.hb
                | true =>
                  have HJ2 : RowKit.Hid (∀ j : Nat, (j : Int) < k + 1 → ansB (cl l j) = true → o.contains j = true) := Lib.hid (fun j hj haj => by
                    by_cases e : (j : Int) = k
                    · rw [show j = k.toNat by omega]; exact hoc
                    · exact HJ.out j (by omega) haj)
                  have HV := Lib.hid ((inV_at (o := o) PK.out.2.2).trans (by rw [if_pos hoc] : _ = some (Value.int .i64 1)))
                  clear ha hoc
                  go_wp2_with (first
                    | ((with_reducible refine gate_dst (N := 66) rfl ?_); refine wpList_load_p rfl 39 (.tmp 65) rfl (ad.add (k.toNat * 16)) rfl [.int .i64 (rd_T39 l k).f0, .int .i64 (rd_T39 l k).f1, .bool (rd_T39 l k).f2, .string (rd_T39 l k).f3, .int .i64 (rd_T39 l k).f4.f0, .string (rd_T39 l k).f4.f1, .string (rd_T39 l k).f4.f2, .int .i64 (rd_T39 l k).f4.f3, .int .i64 (rd_T39 l k).f5, .int .i64 (rd_T39 l k).f6, .int .i64 (rd_T39 l k).f7.f0, .int .i64 (rd_T39 l k).f7.f1, .string (rd_T39 l k).f8.f0, .string (rd_T39 l k).f8.f1, .int .i64 (rd_T39 l k).f8.f2, .bool (rd_T39 l k).f9] _ RK.out Try.underlying39 rfl (by kernel_rfl) ?_)
                    | ((with_reducible refine gate_dst (N := 14) rfl ?_); refine box_event rfl (N := 14) rfl (cs := #[.int .i64 0, .int .i64 0, .bool false, .string ⟨#[]⟩, .int .i64 0, .string ⟨#[]⟩, .string ⟨#[]⟩, .int .i64 0, .int .i64 0, .int .i64 0, .int .i64 0, .int .i64 0, .string ⟨#[]⟩, .string ⟨#[]⟩, .int .i64 0, .bool false]) (t := 39) (by first | (go_simp; done) | (go_simp; rfl)) ?_; intro g14 e14 w14 h14 b14; have N14 := Lib.hid (show w.heap.size ≤ g14 ∧ g14 ≠ gi ∧ g14 ≠ bm by have h1 := blk_lt HM.out.hs.hi; have h2 := HM.out.hm.lt; have h3 := HM.out.hs.hb.size; omega); replace HM := Lib.hid (HM.out.below b14); have B14 := Lib.hid h14; clear h14 b14 e14)
                    | ((with_reducible refine gate_store (t := 39) (p := 14) rfl ?_); refine store_row_event rfl 39 (.tmp 14) (.tmp 66) rfl g14 #[.int .i64 (rd_T39 l k).f0, .int .i64 (rd_T39 l k).f1, .bool (rd_T39 l k).f2, .string (rd_T39 l k).f3, .int .i64 (rd_T39 l k).f4.f0, .string (rd_T39 l k).f4.f1, .string (rd_T39 l k).f4.f2, .int .i64 (rd_T39 l k).f4.f3, .int .i64 (rd_T39 l k).f5, .int .i64 (rd_T39 l k).f6, .int .i64 (rd_T39 l k).f7.f0, .int .i64 (rd_T39 l k).f7.f1, .string (rd_T39 l k).f8.f0, .string (rd_T39 l k).f8.f1, .int .i64 (rd_T39 l k).f8.f2, .bool (rd_T39 l k).f9] rfl rfl 39 _ B14.out (by kernel_rfl) rfl (by simp [Value.oneCell']) ?_; intro v14 h14 q14; replace HM := Lib.hid (HM.out.grown q14 N14.out.1 N14.out.2.1 N14.out.2.2); replace B14 := Lib.hid h14; clear h14 q14)
                    | ((with_reducible refine gate_dst (N := 67) rfl ?_); refine wpList_load_row rfl 39 (.tmp 14) rfl g14 rfl 39 #[.int .i64 (rd_T39 l k).f0, .int .i64 (rd_T39 l k).f1, .bool (rd_T39 l k).f2, .string (rd_T39 l k).f3, .int .i64 (rd_T39 l k).f4.f0, .string (rd_T39 l k).f4.f1, .string (rd_T39 l k).f4.f2, .int .i64 (rd_T39 l k).f4.f3, .int .i64 (rd_T39 l k).f5, .int .i64 (rd_T39 l k).f6, .int .i64 (rd_T39 l k).f7.f0, .int .i64 (rd_T39 l k).f7.f1, .string (rd_T39 l k).f8.f0, .string (rd_T39 l k).f8.f1, .int .i64 (rd_T39 l k).f8.f2, .bool (rd_T39 l k).f9] (0, 0) _ B14.out Try.underlying39 rfl (by kernel_rfl) ?_)
                    | (go_at_call 42; (with_reducible refine (HA.out _).mono ?_); rintro e_ W_ ⟨rfl, hb⟩; replace HM := Lib.hid (HM.out.below hb); have kq := (blk_cell HM.out.hs.hi k.toNat).trans HV.out; clear hb)
                    | (fail))
                  go_roundw
                  case rel => exact ⟨k + 1, by first | rfl | go_num, ⟨by have := PK.out; omega, by have := PK.out; omega⟩, HJ2, HM⟩
                  case measure => have := PK.out; simp [intOf]; omega
            · have hnl : decide (k < (l.length : Int)) = false := decide_eq_false hlt
              have ek : k = (l.length : Int) := by omega
              subst ek
              have HF := Lib.hid (show hldA l xs = (0, 0) by rw [HL.out, if_pos (whl_yes HJ.out)])
              clear k0 k1 hlt
              go_wp2
              go_ret2
              exact hld_to HF.out HM.out.hs.hb
  · have HE := Lib.hid (show hldA l xs = (0, 260) by unfold hldA; rw [if_neg (by rw [he]; decide)])
    have HCH := Lib.hid (HCHK.out 260 he)
    clear he
    go_enter Try.func36, Try.ntmps36
    go_wp2_with (first
      | (go_at_call 16; (with_reducible refine HCH.out.mono ?_); rintro e_ W_ ⟨rfl, hb⟩; have HB := Lib.hid hb; clear hb)
      | (fail))
    go_ret2
    exact hld_to HE.out HB.out
end Go.Proofs.Ytbakmkoppieelaa.PLinearChecks

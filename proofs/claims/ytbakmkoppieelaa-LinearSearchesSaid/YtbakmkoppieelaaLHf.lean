/- What is proved: whether calls can happen one behind the other, of the reference; the conditions stand in the theorem. -/
import Derived.Test.YtbakmkoppieelaaLHe
import Derived.Maps.AppendAt
namespace Go.Proofs.Ytbakmkoppieelaa.PLinearChecks
open Go.RowKit Go.Proofs.YtbakmkoppieelaaW.PrintWords Go.Proofs.YtbakmkoppieelaaW.PrintLast Go.Proofs.YtbakmkoppieelaaW.PrintMore
set_option linter.unusedVariables false
set_option linter.unusedSimpArgs false
theorem wp_box {P : Program} {o : Oper} {a : Act} {W : World} {K : Act → World → Prop} {Q : Exit → Act → World → Prop} {N : Tmp} (_hd : o.dst = some N) {cs : Array Value} {t : TypeId}
    (hrun : (execOp a.eval o).run P W = .ok (.value (.pointer (some ⟨W.heap.size, 0, none⟩))) (W.alloc (.cells cs t (0, 0))))
    (h : ∀ g, g = W.heap.size → ∀ w1, w1.heap[g]? = some (.cells cs t (0, 0)) → Below W.heap.size W w1 → K (a.put o.dst (.pointer (some ⟨g, 0, none⟩))) w1) : o.wp P a W K Q := by
  unfold Oper.wp
  rw [hrun]
  exact h _ rfl _ (blk_new W _) (below_alloc (Below.refl _ _) _)
def twoB (md : Region.Mode) (ops : Array Oper) (l l1 l2 : Array Bool) (i j : Nat) : Bool := (Region.ready md ops l == [i, j]) && (l.setIfInBounds i true == l1) && (l.setIfInBounds j true == l2)
theorem two_of {md : Region.Mode} {ops : Array Oper} {T : Bool × List (List Nat × List Nat)} {l l1 l2 : Array Bool} {i j : Nat} (hT : rtab md ops = T) (h : (readyT T.2 l.toList == [i, j] && l.toList.set i true == l1.toList && l.toList.set j true == l2.toList) = true) : twoB md ops l l1 l2 i j = true := by
  simp only [Bool.and_eq_true] at h
  obtain ⟨⟨h1, h2⟩, h3⟩ := h
  subst hT
  simp only [twoB, Bool.and_eq_true]
  exact ⟨⟨by rw [ready_eq]; exact h1, set_of h2⟩, set_of h3⟩
/-- Two operations may come up now: both orders. -/
theorem two_ {P : Program} {ops : Array Oper} {Q : Exit → Act → World → Prop} {md : Region.Mode} {S : World → Prop} {ds : List Nat} {i j : Nat} {Ni Nj : Option Tmp} {oi oj : Oper} {fuel : Nat} {l : Array Bool} {a : Act} {w : World} (l1 l2 : Array Bool) (hi : ops[i]? = some oi) (hj : ops[j]? = some oj) (hNi : oi.dst = Ni) (hNj : oj.dst = Nj) (hc : twoB md ops l l1 l2 i j = true) (hdi : i ∉ ds) (hdj : j ∉ ds)
    (h1 : ∀ K : Act → World → Prop, Shut (∀ a' w', S w' → (S w' → wpAnyLast P md ops Q S ds fuel l1 a' w') → K a' w') → if Region.wanted oi (yielded ops a.tmps) = true then Oper.wp P oi a w K Q else K (a.put Ni undef) w)
    (h2 : ∀ K : Act → World → Prop, Shut (∀ a' w', S w' → (S w' → wpAnyLast P md ops Q S ds fuel l2 a' w') → K a' w') → if Region.wanted oj (yielded ops a.tmps) = true then Oper.wp P oj a w K Q else K (a.put Nj undef) w) :
    wpAnyLast P md ops Q S ds (fuel + 1) l a w := by
  subst hNi
  subst hNj
  simp only [twoB, Bool.and_eq_true, beq_iff_eq] at hc
  obtain ⟨⟨e0, e1⟩, e2⟩ := hc
  subst e1
  subst e2
  exact wpAnyLast_ready e0 (by simp) (AllReadyL.cons hi hdi (fun K hK => h1 K hK) (AllReadyL.cons hj hdj (fun K hK => h2 K hK) AllReadyL.nil))
theorem own_cellsS {base : Nat} {W : World} {v : Value} {l : List SS} (h : Kd.R k177 177 W base (fun _ => True) v l) : ∃ A c, v = .slice A l.length c ∧ l.length ≤ c ∧ Kd.C k177 W A l.length l := Kd.R_reads h
theorem split_cells {W : World} {g t o : Nat} {p m q : List Value} (h : W.heap[g]? = some (.cells (p ++ m ++ q).toArray t (0, 0))) (hp : p.length = o) : ∀ j v, m[j]? = some v → W.cell? ((⟨g, o, none⟩ : Addr).add j) = some v := by
  subst hp
  refine mid_cells h ?_
  show List.take m.length (List.drop p.length (p ++ m ++ q)) = m
  rw [List.append_assoc, List.drop_left, List.take_left]
theorem one_repS (W : World) (base : Nat) (x : SS) : Reps (k177.M W base (fun _ => True)) k177.sz [x] (ssL x) := by
  have h := Reps.front (show Kd.M k177 W base (fun _ => True) x (ssL x) from k177_mkM _ _ _ x) rfl (Reps.none (k177.M W base (fun _ => True)) k177.sz) rfl
  rw [List.append_nil] at h
  exact h
theorem one_RS (W : World) (x : SS) : Kd.R k177 177 (W.alloc (.cells (ssL x).toArray 177)) W.heap.size (fun _ => True) (.slice (some ⟨W.heap.size, 0, none⟩) 1 1) [x] := by
  refine ⟨fun k hk => trivial, ssL x, ?_, ?_⟩
  · have h2 := World.ownsRow_lit (base := W.heap.size) (e := 177) (size := k177.sz) W (ssL x).toArray 1 (Nat.le_refl _) (by decide) (by rfl)
    have h3 : (W.alloc (.cells (ssL x).toArray 177)).ownsRow W.heap.size 177 k177.sz (.slice (some ⟨W.heap.size, 0, none⟩) 1 1) 1 (ssL x) := by simpa using h2
    exact h3
  · refine (one_repS W W.heap.size x).imp_ (fun p c hp => k177.M_mono (fun k hk => ⟨trivial, fun he => ?_⟩) (Kd.M_below (k177.M_bound hp) (below_alloc (Below.refl _ _) _)))
    have h3 : k = W.heap.size := by simpa [Value.ownBlock] using he
    have := hk.2.2.1
    omega
theorem one_CS (W : World) (x : SS) : Kd.C k177 (W.alloc (.cells (ssL x).toArray 177)) (some ⟨W.heap.size, 0, none⟩) 1 [x] := (Kd.R_reads' (one_RS W x)).2.2
def rrn.T10 : Bool × List (List Nat × List Nat) := (true, [([], []), ([], []), ([0, 1], [0, 1]), ([2], [2]), ([3], [3]), ([], []), ([5], [5]), ([4, 6], [4, 6])])
def rrn.B10 : List Nat := [0, 0, 3, 7, 15, 0, 32, 127]
theorem rrn.tab10 : rtab .any (opsOf Try.f63 10) = rrn.T10 := by kernel_rfl
theorem rrn.bits10 : waitsOk rrn.T10.2 rrn.B10 = true := by kernel_rfl
def rrn.T15 : Bool × List (List Nat × List Nat) := (true, [([], []), ([], []), ([0, 1], [0, 1]), ([2], [2]), ([], []), ([3, 4], [3, 4]), ([5], [5]), ([6], [6]), ([6], [6]), ([], []), ([9, 7, 5, 0, 1, 2, 3, 4, 5, 6, 7, 9], [7, 9]), ([8, 10, 0, 1, 2, 3, 4, 5, 6, 7, 8, 9, 10], [8])])
def rrn.B15 : List Nat := [0, 0, 3, 7, 0, 31, 63, 127, 127, 0, 767, 2047]
theorem rrn.tab15 : rtab .any (opsOf Try.f63 15) = rrn.T15 := by kernel_rfl
theorem rrn.bits15 : waitsOk rrn.T15.2 rrn.B15 = true := by kernel_rfl
set_option maxRecDepth 100000 in
set_option maxHeartbeats 8000000 in
theorem rrun_any (w : World) (A Ax : Option Addr) (c cx : Nat) (l : List S39) (xs : List Int) (hr : Kd.C k39 w A l.length l) (hc : l.length ≤ c) (hx : Kd.C (Kd.int .i64) w Ax xs.length xs) (hcx : xs.length ≤ cx) (hn : l.length ≤ 1000000000000) (hnx : xs.length ≤ 1000000000000) (hin : ∀ j : Nat, j < xs.length → 0 ≤ ix xs (j : Int) ∧ ix xs (j : Int) < l.length) :
    Calls Try.prog 63 #[.slice A l.length c, .slice Ax xs.length cx] w fun e w' => e = .returned (.bool (runR l xs)) ∧ Below w.heap.size w w' := by
  have HR := Lib.hid hr
  have HX := Lib.hid hx
  have HC := Lib.hid (And.intro hc hcx)
  have HN := Lib.hid (And.intro hn hnx)
  have HIN := Lib.hid hin
  clear hr hx hc hcx hn hnx hin
  obtain ⟨fin, hfin⟩ : ∃ q, RowKit.Hid (runR l xs = q) := ⟨_, Lib.hid rfl⟩
  rw [hfin.out]
  go_enter Try.func63, Try.ntmps63
  go_wp2
  go_loopw [5, 6] (fun v5 v6 wr => ∃ (i : Int) (ks : List SS), v6 = .int .i64 i ∧ (0 ≤ i ∧ i ≤ (xs.length : Int)) ∧ RowKit.Hid (fin = runB ((xs.drop i.toNat).map (rd_T39 l)) ks) ∧ RowKit.Hid (Kd.R k177 177 wr w.heap.size (fun _ => True) v5 ks ∧ Below w.heap.size w wr) ∧ RowKit.Hid (ks.length ≤ i.toNat)) (fun _ v6 _ => ((xs.length : Int) - intOf v6).toNat)
  case atStart => exact ⟨0, [], rfl, ⟨by omega, by omega⟩, Lib.hid hfin.out.symm, Lib.hid ⟨Kd.R_nil _ _ _ _ _, Below.refl _ _⟩, Lib.hid (Nat.le_refl _)⟩
  case round =>
    obtain ⟨i, ks, rfl, ⟨i0, i1⟩, HO, HRB, HL⟩ := hrel
    obtain ⟨A', c', rfl, hc', hC'⟩ := own_cellsS HRB.out.1
    clear hc' hC'
    by_cases hlt : i < (xs.length : Int)
    · have c1 : decide (i < (xs.length : Int)) = true := decide_eq_true hlt
      have PI := Lib.hid (show 0 ≤ i ∧ i < (xs.length : Int) ∧ i.toNat < xs.length by omega)
      have pI := eq_true i0
      have qI := eq_true hlt
      have wi : wrap64 (i + 1) = i + 1 := by have h2 := HN.out; unfold wrap64; omega
      have wi2 : IntKind.i64.wrap (i + 1) = i + 1 := (i64_w _).trans wi
      obtain ⟨x, hxx⟩ : ∃ x, ix xs i = x := ⟨_, rfl⟩
      have PX := Lib.hid (show 0 ≤ x ∧ x < (l.length : Int) by have h := HIN.out i.toNat PI.out.2.2; rw [show ((i.toNat : Nat) : Int) = i by omega, hxx] at h; exact h)
      have pX := eq_true PX.out.1
      have qX := eq_true PX.out.2
      obtain ⟨adx, eAx, RX⟩ := int_at (Kd.C_below HX.out HRB.out.2) i i0 hlt
      rw [hxx] at RX
      cases eAx
      obtain ⟨adl, eA, RL⟩ := row39 (Kd.C_below HR.out HRB.out.2) x PX.out.1 PX.out.2
      cases eA
      obtain ⟨cc, ecc⟩ : ∃ q, rd_T39 l x = q := ⟨_, rfl⟩
      rw [ecc] at RL
      have RL := Lib.hid RL
      have HO2 := Lib.hid (show fin = match stpS ks cc with | none => false | some k2 => runB ((xs.drop (i + 1).toNat).map (rd_T39 l)) k2 by
        rw [HO.out, drop_ix i0 hlt, List.map_cons, hxx, ecc]; rfl)
      have HB := Lib.hid HRB.out.2
      have RV := Lib.hid HRB.out.1
      have HLB := Lib.hid (show ks.length ≤ 1000000000000 by have h1 := HL.out; have h2 := HN.out; omega)
      clear i0 i1 hlt hxx ecc HRB HO
      go_wp2_with (first
        | ((with_reducible refine gate_dst (N := 24) rfl ?_); refine wpList_load_p rfl 39 (.tmp 23) rfl (adl.add (x.toNat * 16)) rfl [.int .i64 cc.f0, .int .i64 cc.f1, .bool cc.f2, .string cc.f3, .int .i64 cc.f4.f0, .string cc.f4.f1, .string cc.f4.f2, .int .i64 cc.f4.f3, .int .i64 cc.f5, .int .i64 cc.f6, .int .i64 cc.f7.f0, .int .i64 cc.f7.f1, .string cc.f8.f0, .string cc.f8.f1, .int .i64 cc.f8.f2, .bool cc.f9] _ RL.out Try.underlying39 rfl (by kernel_rfl) ?_)
        | ((with_reducible refine gate_dst (N := 7) rfl ?_); refine box_event rfl (N := 7) rfl (cs := #[.int .i64 0, .int .i64 0, .bool false, .string ⟨#[]⟩, .int .i64 0, .string ⟨#[]⟩, .string ⟨#[]⟩, .int .i64 0, .int .i64 0, .int .i64 0, .int .i64 0, .int .i64 0, .string ⟨#[]⟩, .string ⟨#[]⟩, .int .i64 0, .bool false]) (t := 39) (by first | (go_simp; done) | (go_simp; rfl)) ?_; intro g7 e7 w7 h7 b7; have L7 := Lib.hid (Nat.le_trans HB.out.size (Nat.le_of_eq e7.symm)); have V7 := Lib.hid (show some g7 ≠ Value.ownBlock (Value.slice A' ks.length c') from fun e => by have := (Kd.R_lt RV.out _ e.symm); omega); replace HB := Lib.hid (below_step HB.out b7); replace RV := Lib.hid (Kd.R_below RV.out b7); have B7 := Lib.hid h7; clear h7 b7 e7)
        | ((with_reducible refine gate_store (t := 39) (p := 7) rfl ?_); refine store_row_event rfl 39 (.tmp 7) (.tmp 24) rfl g7 #[.int .i64 cc.f0, .int .i64 cc.f1, .bool cc.f2, .string cc.f3, .int .i64 cc.f4.f0, .string cc.f4.f1, .string cc.f4.f2, .int .i64 cc.f4.f3, .int .i64 cc.f5, .int .i64 cc.f6, .int .i64 cc.f7.f0, .int .i64 cc.f7.f1, .string cc.f8.f0, .string cc.f8.f1, .int .i64 cc.f8.f2, .bool cc.f9] rfl rfl 39 _ B7.out (by kernel_rfl) rfl (by simp [Value.oneCell']) ?_; intro v24 h_ q_; replace HB := Lib.hid (below_of_grown HB.out q_ L7.out HB.out.size); replace RV := Lib.hid (Kd.R_grown1 RV.out rfl q_ V7.out); replace B7 := Lib.hid h_; clear h_ q_)
        | (fail))
      go_loopw [8, 9] (fun v8 v9 wr2 => ∃ k f : Int, v9 = .int .i64 k ∧ v8 = .int .i64 f ∧ (0 ≤ k ∧ k ≤ (ks.length : Int)) ∧ RowKit.Hid (f = fndK cc.f3 ks k.toNat) ∧ RowKit.Hid (Below (World.heap v24).size v24 wr2)) (fun _ v9 _ => ((ks.length : Int) - intOf v9).toNat)
      case atStart => exact ⟨0, -1, rfl, rfl, ⟨by omega, by omega⟩, Lib.hid rfl, Lib.hid (Below.refl _ _)⟩
      case round =>
        obtain ⟨k, f, rfl, rfl, ⟨k0, k1⟩, HF, HW⟩ := hrel
        replace HB := Lib.hid (below_step HB.out HW.out)
        replace RV := Lib.hid (Kd.R_below RV.out HW.out)
        replace B7 := Lib.hid (blk_below B7.out HW.out)
        by_cases hlk : k < (ks.length : Int)
        · have c2 : decide (k < (ks.length : Int)) = true := decide_eq_true hlk
          have PK := Lib.hid (show 0 ≤ k ∧ k < (ks.length : Int) by omega)
          have pK := eq_true k0
          have qK := eq_true hlk
          have wk : wrap64 (k + 1) = k + 1 := by have h2 := HLB.out; unfold wrap64; omega
          have wk2 : IntKind.i64.wrap (k + 1) = k + 1 := (i64_w _).trans wk
          obtain ⟨A2, c2, e2, hc2, hC2⟩ := own_cellsS RV.out
          cases e2
          obtain ⟨adk, eA, RK⟩ := rowS hC2 k k0 hlk
          cases eA
          obtain ⟨sk, esk⟩ : ∃ q, kl ks k.toNat = q := ⟨_, rfl⟩
          have ESK := Lib.hid esk
          have CK := Lib.hid hC2
          clear RK
          have HF2 := Lib.hid (show fndK cc.f3 ks (k + 1).toNat = if (sk.k.toList == cc.f3.toList) = true then k else f by
            rw [show (k + 1).toNat = k.toNat + 1 by omega, fndK, esk, HF.out, show ((k.toNat : Nat) : Int) = k by omega])
          clear hc2 hC2 k0 k1 hlk esk
          go_upto_region 10 with (fail)
          refine start_ (n := 8) (S := fun w1 => Below (World.heap wr).size wr w1) (ds := []) (ar 8 0) (by kernel_rfl) rfl rfl (below_drew1 (Below.refl _ _)) (fun hHeld => ?_); refine with_tabW rrn.tab10 rrn.bits10 (fun HT_ HW_ => ?_)
          generalize World.drew wr = wz at hHeld ⊢
          refine pY 0 (some 31) (ar 8 1) HT_ (h := ?_)
          refine pY 1 (some 32) (ar 8 2) HT_ (h := ?_)
          refine pY 2 (some 33) (ar 8 3) HT_ (h := ?_)
          refine pY 3 (some 34) (ar 8 4) HT_ (h := ?_)
          refine take_ (i := 4) (N := (some 35)) (v := ?_) (a' := ?_) (ar 8 5) rfl rfl (take_ofW HT_.out HW_.out (by kernel_rfl)) (fun _ _ _ h => h) (Or.inl ⟨by rfl, ?_⟩) hHeld ?_ ?_; rotate_left; (· rintro w1 hs1; obtain ⟨a_, e_, h_⟩ := rowS (Kd.C_below CK.out hs1) k PK.out.1 PK.out.2; cases e_; have kc : w1.cell? (adk.add (k.toNat * 5)) = some (.string sk.k) := (by have h := h_ 0 _ rfl; rw [ESK.out] at h; exact h); clear h_; go_simp; with_reducible rfl); rotate_left; (· simp only [Act.put, List.setIfInBounds_toArray, List.set_cons_zero, List.set_cons_succ, i64_w, i32_w]; rfl)
          refine pY 5 (some 36) (ar 8 6) HT_ (h := ?_)
          refine take_ (i := 6) (N := (some 37)) (v := ?_) (a' := ?_) (ar 8 7) rfl rfl (take_ofW HT_.out HW_.out (by kernel_rfl)) (fun _ _ _ h => h) (Or.inl ⟨by rfl, ?_⟩) hHeld ?_ ?_; rotate_left; (· rintro w1 hs1; have kc : w1.cell? ⟨g7, 3, none⟩ = some (.string cc.f3) := (blk_cell (blk_below B7.out hs1) 3).trans rfl; go_simp; with_reducible rfl); rotate_left; (· simp only [Act.put, List.setIfInBounds_toArray, List.set_cons_zero, List.set_cons_succ, i64_w, i32_w]; rfl)
          refine pY 7 (some 38) (ar 8 8) HT_ (h := ?_)
          refine done_ (done_of HT_.out (by kernel_rfl)) ?_
          cases tq : (sk.k.toList == cc.f3.toList) with
          | true =>
            rw [tq, if_pos rfl] at HF2
            go_wp2_with (fail)
            go_roundw
            case rel => exact ⟨k + 1, k, by first | rfl | go_num, rfl, ⟨by have := PK.out; omega, by have := PK.out; omega⟩, Lib.hid HF2.out.symm, Lib.hid (below_step HW.out hHeld)⟩
            case measure => have := PK.out; simp [intOf]; omega
          | false =>
            rw [tq, if_neg (by decide)] at HF2
            go_wp2_with (fail)
            go_roundw
            case rel => exact ⟨k + 1, f, by first | rfl | go_num, rfl, ⟨by have := PK.out; omega, by have := PK.out; omega⟩, Lib.hid HF2.out.symm, Lib.hid (below_step HW.out hHeld)⟩
            case measure => have := PK.out; simp [intOf]; omega
        · have c2 : decide (k < (ks.length : Int)) = false := decide_eq_false hlk
          have ek : k = (ks.length : Int) := by omega
          subst ek
          rw [Int.toNat_natCast] at HF
          clear k0 k1 hlk HW
          by_cases hf : f < 0
          · have dk : decide (f < 0) = true := decide_eq_true hf
            obtain ⟨K2, eK⟩ : ∃ q, ks ++ [(⟨cc.f3, false, ⟨#[]⟩, 0, 0⟩ : SS)] = q := ⟨_, rfl⟩
            obtain ⟨a, ea⟩ : ∃ a : Int, (ks.length : Int) = a := ⟨_, rfl⟩
            have EK := Lib.hid (show addS ks cc = K2 by unfold addS; rw [← HF.out, if_pos hf]; exact eK)
            have AK := Lib.hid (show atS ks cc = a.toNat by unfold atS; rw [← HF.out, if_pos hf]; omega)
            have A0 := Lib.hid (show 0 ≤ a by omega)
            have HKL := Lib.hid (show (K2.length : Int) = a + 1 by rw [← eK, List.length_append]; show ((ks.length + 1 : Nat) : Int) = a + 1; omega)
            have wk : wrap64 ((K2.length : Int) - 1) = a := by have h1 := HKL.out; have h2 := HLB.out; unfold wrap64; omega
            have wk2 : IntKind.i64.wrap ((K2.length : Int) - 1) = a := (i64_w _).trans wk
            have eK := Lib.hid eK
            clear hf HF ea
            go_upto_region 15 with (first
              | ((with_reducible refine gate_dst (N := 44) rfl ?_); refine wpList_load_cell rfl 9 (.tmp 43) rfl g7 3 rfl _ _ B7.out (.string cc.f3) rfl _ Try.underlying9 rfl ?_)
              | (at_builtin; refine Kd.R_append_rows k177 (Rr := k177.K (World.alloc wr (.cells #[.string cc.f3, .bool false, .string ⟨#[]⟩, .int .i64 0, .int .i64 0] 177))) (w0 := w) w.heap.size rfl (.tmp 42) (.tmp 46) 175 177 (.agg #[.string ⟨#[]⟩, .bool false, .string ⟨#[]⟩, .int .i64 0, .int .i64 0]) 56 rfl Try.underlying175 info177 rfl (by decide) (by decide) (Value.slice A' ks.length c') ks [(⟨cc.f3, false, ⟨#[]⟩, 0, 0⟩ : SS)] (some ⟨World.heap wr |>.size, 0, none⟩) 1 1 (fun _ => True) (fun _ => False) rfl rfl (Kd.R_alloc RV.out _) (one_CS wr ⟨cc.f3, false, ⟨#[]⟩, 0, 0⟩) (fun x cs h => by rw [k177_open h]; exact k177_mkM _ _ _ x) (fun _ h => h.elim) (fun _ _ => trivial) (HB.out.alloc HB.out.size _) (by have := HB.out.size; simp; omega) (by have h1 := HLB.out; have h4 : ([(⟨cc.f3, false, ⟨#[]⟩, 0, 0⟩ : SS)] : List SS).length = 1 := rfl; omega) ?_; intro v2 w2 hR2 hb2 hg2 hat2; replace B7 := Lib.hid (blk_grown (blk_alloc B7.out _) hg2 V7.out); rw [eK.out] at hR2; obtain ⟨A2, c2, rfl, hc2, hC2⟩ := own_cellsS hR2; replace RV := Lib.hid hR2; replace HB := Lib.hid hb2; clear hR2 hb2 hg2 hat2 hc2 hC2)
              | (fail))
            have HAK := Lib.hid (show addS ks cc = K2 ∧ atS ks cc = a.toNat from ⟨EK.out, AK.out⟩)
            have HK := Lib.hid (show 0 ≤ a ∧ a < (K2.length : Int) ∧ a.toNat < K2.length by have h1 := at_lt ks cc; rw [HAK.out.1, HAK.out.2] at h1; have h2 := A0.out; omega)
            have pK := eq_true HK.out.1
            have qK := eq_true HK.out.2.1
            obtain ⟨s, es⟩ : ∃ q, kl K2 a.toNat = q := ⟨_, rfl⟩
            have ES := Lib.hid es
            clear es
            obtain ⟨gq, cq, pq, qq, eq_, bq_, cq_, lq_, hq_, closeq⟩ := R_splitS RV.out a.toNat HK.out.2.2
            cases eq_
            rw [ES.out] at hq_
            have BQ := Lib.hid hq_
            have LQ := Lib.hid lq_
            have CQ := Lib.hid closeq
            have GQ := Lib.hid bq_
            clear hq_ lq_ closeq bq_ cq_ RV
            obtain ⟨nx, ob, ep⟩ : ∃ nx ob, aftF s cc = (nx, ob) := ⟨_, _, rfl⟩
            have HAF := Lib.hid (fun W => (show Calls Try.prog 93 #[.agg #[.string s.k, .bool s.t, .string s.v, .int .i64 s.lo, .int .i64 s.fr], .agg #[.int .i64 cc.f0, .int .i64 cc.f1, .bool cc.f2, .string cc.f3, .int .i64 cc.f4.f0, .string cc.f4.f1, .string cc.f4.f2, .int .i64 cc.f4.f3, .int .i64 cc.f5, .int .i64 cc.f6, .int .i64 cc.f7.f0, .int .i64 cc.f7.f1, .string cc.f8.f0, .string cc.f8.f1, .int .i64 cc.f8.f2, .bool cc.f9]] W (fun e w' => e = .returned (.tuple #[.agg #[.string nx.k, .bool nx.t, .string nx.v, .int .i64 nx.lo, .int .i64 nx.fr], .bool ob]) ∧ Below W.heap.size W w') from by have h := after_any s cc W; rw [ep] at h; exact h))
            have HSP := Lib.hid (show stpS ks cc = if ob = true then some (K2.set a.toNat nx) else none by unfold stpS; rw [HAK.out.1, HAK.out.2, ES.out, ep])
            have HL2 := Lib.hid (show K2.length ≤ i.toNat + 1 by have h1 := add_len ks cc; rw [HAK.out.1] at h1; have h2 := HL.out; omega)
            clear ep
            cases ob with
            | false =>
              have HS := Lib.hid (show fin = false by rw [HO2.out, HSP.out]; rfl)
              have HAFT := HAF
              clear HAF
              refine start_ (n := 12) (S := fun w1 => Below (World.heap w2).size w2 w1) (ds := []) (ar 12 0) (by kernel_rfl) rfl rfl (below_drew1 (Below.refl _ _)) (fun hHeld => ?_); refine with_tabW rrn.tab15 rrn.bits15 (fun HT_ HW_ => ?_)
              generalize World.drew w2 = wz at hHeld ⊢
              refine pY 0 (some 52) (ar 12 1) HT_ (h := ?_)
              refine pY 1 (some 53) (ar 12 2) HT_ (h := ?_)
              refine pY 2 (some 54) (ar 12 3) HT_ (h := ?_)
              refine take_ (i := 3) (N := (some 55)) (v := .agg #[.string s.k, .bool s.t, .string s.v, .int .i64 s.lo, .int .i64 s.fr]) (a' := ?_) (ar 12 4) rfl rfl (take_ofW HT_.out HW_.out (by kernel_rfl)) (fun _ _ _ h => h) (Or.inl ⟨by rfl, fun w1 hs1 => exec_load_p 177 (.tmp 54) rfl ⟨gq, a.toNat * 5, none⟩ rfl [.string s.k, .bool s.t, .string s.v, .int .i64 s.lo, .int .i64 s.fr] _ (split_cells (blk_below BQ.out hs1) LQ.out) Try.underlying177 rfl (by kernel_rfl)⟩) hHeld ?_ ?_; rotate_left; (· simp only [Act.put, List.setIfInBounds_toArray, List.set_cons_zero, List.set_cons_succ, i64_w, i32_w]; rfl)
              refine take_ (i := 4) (N := (some 56)) (v := .agg #[.int .i64 cc.f0, .int .i64 cc.f1, .bool cc.f2, .string cc.f3, .int .i64 cc.f4.f0, .string cc.f4.f1, .string cc.f4.f2, .int .i64 cc.f4.f3, .int .i64 cc.f5, .int .i64 cc.f6, .int .i64 cc.f7.f0, .int .i64 cc.f7.f1, .string cc.f8.f0, .string cc.f8.f1, .int .i64 cc.f8.f2, .bool cc.f9]) (a' := ?_) (ar 12 5) rfl rfl (take_ofW HT_.out HW_.out (by kernel_rfl)) (fun _ _ _ h => h) (Or.inl ⟨by rfl, fun w1 hs1 => exec_load_p 39 (.tmp 7) rfl ⟨g7, 0, none⟩ rfl [.int .i64 cc.f0, .int .i64 cc.f1, .bool cc.f2, .string cc.f3, .int .i64 cc.f4.f0, .string cc.f4.f1, .string cc.f4.f2, .int .i64 cc.f4.f3, .int .i64 cc.f5, .int .i64 cc.f6, .int .i64 cc.f7.f0, .int .i64 cc.f7.f1, .string cc.f8.f0, .string cc.f8.f1, .int .i64 cc.f8.f2, .bool cc.f9] _ (mid_cells (blk_below B7.out hs1) rfl) Try.underlying39 rfl (by kernel_rfl)⟩) hHeld ?_ ?_; rotate_left; (· simp only [Act.put, List.setIfInBounds_toArray, List.set_cons_zero, List.set_cons_succ, i64_w, i32_w]; rfl)
              refine two_ (i := 5) (j := 9) (Ni := some 57) (Nj := some 10) (ar 12 6) #[true, true, true, true, true, false, false, false, false, true, false, false] rfl rfl rfl rfl (two_of HT_.out (by kernel_rfl)) (by decide) (by decide) (fun K hK => ?_) (fun K hK => ?_)
              · refine goes_ Try.func93 (by kernel_rfl) rfl #[.agg #[.string s.k, .bool s.t, .string s.v, .int .i64 s.lo, .int .i64 s.fr], .agg #[.int .i64 cc.f0, .int .i64 cc.f1, .bool cc.f2, .string cc.f3, .int .i64 cc.f4.f0, .string cc.f4.f1, .string cc.f4.f2, .int .i64 cc.f4.f3, .int .i64 cc.f5, .int .i64 cc.f6, .int .i64 cc.f7.f0, .int .i64 cc.f7.f1, .string cc.f8.f0, .string cc.f8.f1, .int .i64 cc.f8.f2, .bool cc.f9]] (by rfl) rfl rfl (by (try simp only [List.map_toArray, List.map_cons, List.map_nil]); first | done | rfl) ?_; (with_reducible refine (HAFT.out _).mono ?_); rintro e w12 ⟨rfl, hb⟩; refine ⟨_, rfl, ?_⟩; refine hK.out _ _ (below_step hHeld hb) (fun hHeld => ?_); clear hK K hb; refine norm_ (a' := ?_) ?_ ?_; rotate_left; (· show Act.put _ (some 57) _ = _; simp only [Act.put, List.setIfInBounds_toArray, List.set_cons_zero, List.set_cons_succ, i64_w, i32_w]; rfl)
                refine pY 6 (some 51) (ar 12 7) HT_ (h := ?_)
                refine pY 7 (some 58) (ar 12 8) HT_ (h := ?_)
                refine pY 8 (some 59) (ar 12 9) HT_ (h := ?_)
                refine one_ (i := 9) (N := (some 10)) (ar 12 10) rfl rfl (one_of HT_.out (by kernel_rfl)) (by decide) (fun K hK => ?_); refine wp_box (N := 10) rfl (cs := #[.string ⟨#[]⟩, .bool false, .string ⟨#[]⟩, .int .i64 0, .int .i64 0]) (t := 177) (by first | (go_simp; done) | (go_simp; rfl)) ?_; intro g10 e10 w10 h10 b10; have L10 := Lib.hid (Nat.le_trans hHeld.size (Nat.le_of_eq e10.symm)); have B10 := Lib.hid h10; refine hK.out _ _ (below_step hHeld b10) (fun hHeld => ?_); clear hK K h10 b10 e10; refine norm_ (a' := ?_) ?_ ?_; rotate_left; (· show Act.put _ (some 10) _ = _; simp only [Act.put, List.setIfInBounds_toArray, List.set_cons_zero, List.set_cons_succ, i64_w, i32_w]; rfl)
                refine one_ (i := 10) (N := none) (ar 12 11) rfl rfl (one_of HT_.out (by kernel_rfl)) (by decide) (fun K hK => ?_); refine wp_row 177 (.tmp 10) (.tmp 58) rfl g10 #[.string nx.k, .bool nx.t, .string nx.v, .int .i64 nx.lo, .int .i64 nx.fr] rfl rfl 177 _ B10.out (by kernel_rfl) rfl (by simp [Value.oneCell']) ?_; intro vq h_ q_; replace B10 := Lib.hid h_; clear h_; refine hK.out _ _ (below_of_grown hHeld q_ L10.out hHeld.size) (fun hHeld => ?_); clear hK K q_
                refine pY 11 (some 11) (ar 12 12) HT_ (h := ?_)
                refine done_ (done_of HT_.out (by kernel_rfl)) ?_
                replace HB := Lib.hid (below_step HB.out hHeld)
                replace BQ := Lib.hid (blk_below BQ.out hHeld)
                clear hHeld
                go_wp2_with (fail)
                go_ret
                exact ⟨by rw [HS.out]; rfl, HB.out⟩
              · refine wp_box (N := 10) rfl (cs := #[.string ⟨#[]⟩, .bool false, .string ⟨#[]⟩, .int .i64 0, .int .i64 0]) (t := 177) (by first | (go_simp; done) | (go_simp; rfl)) ?_; intro g10 e10 w10 h10 b10; have L10 := Lib.hid (Nat.le_trans hHeld.size (Nat.le_of_eq e10.symm)); have B10 := Lib.hid h10; refine hK.out _ _ (below_step hHeld b10) (fun hHeld => ?_); clear hK K h10 b10 e10; refine norm_ (a' := ?_) ?_ ?_; rotate_left; (· show Act.put _ (some 10) _ = _; simp only [Act.put, List.setIfInBounds_toArray, List.set_cons_zero, List.set_cons_succ, i64_w, i32_w]; rfl)
                refine one_ (i := 5) (N := (some 57)) #[true, true, true, true, true, true, false, false, false, true, false, false] rfl rfl (one_of HT_.out (by kernel_rfl)) (by decide) (fun K hK => ?_); refine goes_ Try.func93 (by kernel_rfl) rfl #[.agg #[.string s.k, .bool s.t, .string s.v, .int .i64 s.lo, .int .i64 s.fr], .agg #[.int .i64 cc.f0, .int .i64 cc.f1, .bool cc.f2, .string cc.f3, .int .i64 cc.f4.f0, .string cc.f4.f1, .string cc.f4.f2, .int .i64 cc.f4.f3, .int .i64 cc.f5, .int .i64 cc.f6, .int .i64 cc.f7.f0, .int .i64 cc.f7.f1, .string cc.f8.f0, .string cc.f8.f1, .int .i64 cc.f8.f2, .bool cc.f9]] (by rfl) rfl rfl (by (try simp only [List.map_toArray, List.map_cons, List.map_nil]); first | done | rfl) ?_; (with_reducible refine (HAFT.out _).mono ?_); rintro e w12 ⟨rfl, hb⟩; refine ⟨_, rfl, ?_⟩; replace B10 := Lib.hid (blk_below B10.out hb); refine hK.out _ _ (below_step hHeld hb) (fun hHeld => ?_); clear hK K hb; refine norm_ (a' := ?_) ?_ ?_; rotate_left; (· show Act.put _ (some 57) _ = _; simp only [Act.put, List.setIfInBounds_toArray, List.set_cons_zero, List.set_cons_succ, i64_w, i32_w]; rfl)
                refine pY 6 (some 51) #[true, true, true, true, true, true, true, false, false, true, false, false] HT_ (h := ?_)
                refine pY 7 (some 58) #[true, true, true, true, true, true, true, true, false, true, false, false] HT_ (h := ?_)
                refine pY 8 (some 59) (ar 12 10) HT_ (h := ?_)
                refine one_ (i := 10) (N := none) (ar 12 11) rfl rfl (one_of HT_.out (by kernel_rfl)) (by decide) (fun K hK => ?_); refine wp_row 177 (.tmp 10) (.tmp 58) rfl g10 #[.string nx.k, .bool nx.t, .string nx.v, .int .i64 nx.lo, .int .i64 nx.fr] rfl rfl 177 _ B10.out (by kernel_rfl) rfl (by simp [Value.oneCell']) ?_; intro vq h_ q_; replace B10 := Lib.hid h_; clear h_; refine hK.out _ _ (below_of_grown hHeld q_ L10.out hHeld.size) (fun hHeld => ?_); clear hK K q_
                refine pY 11 (some 11) (ar 12 12) HT_ (h := ?_)
                refine done_ (done_of HT_.out (by kernel_rfl)) ?_
                replace HB := Lib.hid (below_step HB.out hHeld)
                replace BQ := Lib.hid (blk_below BQ.out hHeld)
                clear hHeld
                go_wp2_with (fail)
                go_ret
                exact ⟨by rw [HS.out]; rfl, HB.out⟩
            | true =>
              have HS := Lib.hid (show fin = runB ((xs.drop (i + 1).toNat).map (rd_T39 l)) (K2.set a.toNat nx) by rw [HO2.out, HSP.out]; rfl)
              have HAFT := HAF
              clear HAF
              refine start_ (n := 12) (S := fun w1 => Below (World.heap w2).size w2 w1) (ds := []) (ar 12 0) (by kernel_rfl) rfl rfl (below_drew1 (Below.refl _ _)) (fun hHeld => ?_); refine with_tabW rrn.tab15 rrn.bits15 (fun HT_ HW_ => ?_)
              generalize World.drew w2 = wz at hHeld ⊢
              refine pY 0 (some 52) (ar 12 1) HT_ (h := ?_)
              refine pY 1 (some 53) (ar 12 2) HT_ (h := ?_)
              refine pY 2 (some 54) (ar 12 3) HT_ (h := ?_)
              refine take_ (i := 3) (N := (some 55)) (v := .agg #[.string s.k, .bool s.t, .string s.v, .int .i64 s.lo, .int .i64 s.fr]) (a' := ?_) (ar 12 4) rfl rfl (take_ofW HT_.out HW_.out (by kernel_rfl)) (fun _ _ _ h => h) (Or.inl ⟨by rfl, fun w1 hs1 => exec_load_p 177 (.tmp 54) rfl ⟨gq, a.toNat * 5, none⟩ rfl [.string s.k, .bool s.t, .string s.v, .int .i64 s.lo, .int .i64 s.fr] _ (split_cells (blk_below BQ.out hs1) LQ.out) Try.underlying177 rfl (by kernel_rfl)⟩) hHeld ?_ ?_; rotate_left; (· simp only [Act.put, List.setIfInBounds_toArray, List.set_cons_zero, List.set_cons_succ, i64_w, i32_w]; rfl)
              refine take_ (i := 4) (N := (some 56)) (v := .agg #[.int .i64 cc.f0, .int .i64 cc.f1, .bool cc.f2, .string cc.f3, .int .i64 cc.f4.f0, .string cc.f4.f1, .string cc.f4.f2, .int .i64 cc.f4.f3, .int .i64 cc.f5, .int .i64 cc.f6, .int .i64 cc.f7.f0, .int .i64 cc.f7.f1, .string cc.f8.f0, .string cc.f8.f1, .int .i64 cc.f8.f2, .bool cc.f9]) (a' := ?_) (ar 12 5) rfl rfl (take_ofW HT_.out HW_.out (by kernel_rfl)) (fun _ _ _ h => h) (Or.inl ⟨by rfl, fun w1 hs1 => exec_load_p 39 (.tmp 7) rfl ⟨g7, 0, none⟩ rfl [.int .i64 cc.f0, .int .i64 cc.f1, .bool cc.f2, .string cc.f3, .int .i64 cc.f4.f0, .string cc.f4.f1, .string cc.f4.f2, .int .i64 cc.f4.f3, .int .i64 cc.f5, .int .i64 cc.f6, .int .i64 cc.f7.f0, .int .i64 cc.f7.f1, .string cc.f8.f0, .string cc.f8.f1, .int .i64 cc.f8.f2, .bool cc.f9] _ (mid_cells (blk_below B7.out hs1) rfl) Try.underlying39 rfl (by kernel_rfl)⟩) hHeld ?_ ?_; rotate_left; (· simp only [Act.put, List.setIfInBounds_toArray, List.set_cons_zero, List.set_cons_succ, i64_w, i32_w]; rfl)
              refine two_ (i := 5) (j := 9) (Ni := some 57) (Nj := some 10) (ar 12 6) #[true, true, true, true, true, false, false, false, false, true, false, false] rfl rfl rfl rfl (two_of HT_.out (by kernel_rfl)) (by decide) (by decide) (fun K hK => ?_) (fun K hK => ?_)
              · refine goes_ Try.func93 (by kernel_rfl) rfl #[.agg #[.string s.k, .bool s.t, .string s.v, .int .i64 s.lo, .int .i64 s.fr], .agg #[.int .i64 cc.f0, .int .i64 cc.f1, .bool cc.f2, .string cc.f3, .int .i64 cc.f4.f0, .string cc.f4.f1, .string cc.f4.f2, .int .i64 cc.f4.f3, .int .i64 cc.f5, .int .i64 cc.f6, .int .i64 cc.f7.f0, .int .i64 cc.f7.f1, .string cc.f8.f0, .string cc.f8.f1, .int .i64 cc.f8.f2, .bool cc.f9]] (by rfl) rfl rfl (by (try simp only [List.map_toArray, List.map_cons, List.map_nil]); first | done | rfl) ?_; (with_reducible refine (HAFT.out _).mono ?_); rintro e w12 ⟨rfl, hb⟩; refine ⟨_, rfl, ?_⟩; refine hK.out _ _ (below_step hHeld hb) (fun hHeld => ?_); clear hK K hb; refine norm_ (a' := ?_) ?_ ?_; rotate_left; (· show Act.put _ (some 57) _ = _; simp only [Act.put, List.setIfInBounds_toArray, List.set_cons_zero, List.set_cons_succ, i64_w, i32_w]; rfl)
                refine pY 6 (some 51) (ar 12 7) HT_ (h := ?_)
                refine pY 7 (some 58) (ar 12 8) HT_ (h := ?_)
                refine pY 8 (some 59) (ar 12 9) HT_ (h := ?_)
                refine one_ (i := 9) (N := (some 10)) (ar 12 10) rfl rfl (one_of HT_.out (by kernel_rfl)) (by decide) (fun K hK => ?_); refine wp_box (N := 10) rfl (cs := #[.string ⟨#[]⟩, .bool false, .string ⟨#[]⟩, .int .i64 0, .int .i64 0]) (t := 177) (by first | (go_simp; done) | (go_simp; rfl)) ?_; intro g10 e10 w10 h10 b10; have L10 := Lib.hid (Nat.le_trans hHeld.size (Nat.le_of_eq e10.symm)); have B10 := Lib.hid h10; refine hK.out _ _ (below_step hHeld b10) (fun hHeld => ?_); clear hK K h10 b10 e10; refine norm_ (a' := ?_) ?_ ?_; rotate_left; (· show Act.put _ (some 10) _ = _; simp only [Act.put, List.setIfInBounds_toArray, List.set_cons_zero, List.set_cons_succ, i64_w, i32_w]; rfl)
                refine one_ (i := 10) (N := none) (ar 12 11) rfl rfl (one_of HT_.out (by kernel_rfl)) (by decide) (fun K hK => ?_); refine wp_row 177 (.tmp 10) (.tmp 58) rfl g10 #[.string nx.k, .bool nx.t, .string nx.v, .int .i64 nx.lo, .int .i64 nx.fr] rfl rfl 177 _ B10.out (by kernel_rfl) rfl (by simp [Value.oneCell']) ?_; intro vq h_ q_; replace B10 := Lib.hid h_; clear h_; refine hK.out _ _ (below_of_grown hHeld q_ L10.out hHeld.size) (fun hHeld => ?_); clear hK K q_
                refine pY 11 (some 11) (ar 12 12) HT_ (h := ?_)
                refine done_ (done_of HT_.out (by kernel_rfl)) ?_
                replace HB := Lib.hid (below_step HB.out hHeld)
                replace BQ := Lib.hid (blk_below BQ.out hHeld)
                clear hHeld
                go_wp2_with (first
                  | ((with_reducible refine gate_dst (N := 64) rfl ?_); refine wpList_load_row rfl 177 (.tmp 10) rfl g10 rfl 177 #[.string nx.k, .bool nx.t, .string nx.v, .int .i64 nx.lo, .int .i64 nx.fr] (0, 0) _ B10.out Try.underlying177 rfl (by kernel_rfl) ?_)
                  | ((with_reducible refine gate_store (t := 177) (p := 65) rfl ?_); refine elem_mid_event rfl 177 (.tmp 65) (.tmp 64) rfl gq (a.toNat * 5) 0 #[.string nx.k, .bool nx.t, .string nx.v, .int .i64 nx.lo, .int .i64 nx.fr] rfl rfl 177 pq _ qq LQ.out BQ.out (by show 0 + 5 ≤ 5; decide) (by kernel_rfl) (by simp [Value.oneCell']) ?_; intro vs h_ q_; replace HB := Lib.hid (below_of_grown HB.out q_ GQ.out HB.out.size); replace BQ : RowKit.Hid (vs.heap[gq]? = some (.cells (pq ++ ssL nx ++ qq).toArray 177 (0, 0))) := Lib.hid h_; clear h_ q_)
                  | (fail))
                go_roundw
                case rel => exact ⟨i + 1, K2.set a.toNat nx, by first | rfl | go_num, ⟨by have := PI.out; omega, by have := PI.out; omega⟩, HS, Lib.hid ⟨CQ.out _ _ BQ.out, HB.out⟩, Lib.hid (by rw [List.length_set]; have := HL2.out; have := PI.out; omega)⟩
                case measure => have := PI.out; simp [intOf]; omega
              · refine wp_box (N := 10) rfl (cs := #[.string ⟨#[]⟩, .bool false, .string ⟨#[]⟩, .int .i64 0, .int .i64 0]) (t := 177) (by first | (go_simp; done) | (go_simp; rfl)) ?_; intro g10 e10 w10 h10 b10; have L10 := Lib.hid (Nat.le_trans hHeld.size (Nat.le_of_eq e10.symm)); have B10 := Lib.hid h10; refine hK.out _ _ (below_step hHeld b10) (fun hHeld => ?_); clear hK K h10 b10 e10; refine norm_ (a' := ?_) ?_ ?_; rotate_left; (· show Act.put _ (some 10) _ = _; simp only [Act.put, List.setIfInBounds_toArray, List.set_cons_zero, List.set_cons_succ, i64_w, i32_w]; rfl)
                refine one_ (i := 5) (N := (some 57)) #[true, true, true, true, true, true, false, false, false, true, false, false] rfl rfl (one_of HT_.out (by kernel_rfl)) (by decide) (fun K hK => ?_); refine goes_ Try.func93 (by kernel_rfl) rfl #[.agg #[.string s.k, .bool s.t, .string s.v, .int .i64 s.lo, .int .i64 s.fr], .agg #[.int .i64 cc.f0, .int .i64 cc.f1, .bool cc.f2, .string cc.f3, .int .i64 cc.f4.f0, .string cc.f4.f1, .string cc.f4.f2, .int .i64 cc.f4.f3, .int .i64 cc.f5, .int .i64 cc.f6, .int .i64 cc.f7.f0, .int .i64 cc.f7.f1, .string cc.f8.f0, .string cc.f8.f1, .int .i64 cc.f8.f2, .bool cc.f9]] (by rfl) rfl rfl (by (try simp only [List.map_toArray, List.map_cons, List.map_nil]); first | done | rfl) ?_; (with_reducible refine (HAFT.out _).mono ?_); rintro e w12 ⟨rfl, hb⟩; refine ⟨_, rfl, ?_⟩; replace B10 := Lib.hid (blk_below B10.out hb); refine hK.out _ _ (below_step hHeld hb) (fun hHeld => ?_); clear hK K hb; refine norm_ (a' := ?_) ?_ ?_; rotate_left; (· show Act.put _ (some 57) _ = _; simp only [Act.put, List.setIfInBounds_toArray, List.set_cons_zero, List.set_cons_succ, i64_w, i32_w]; rfl)
                refine pY 6 (some 51) #[true, true, true, true, true, true, true, false, false, true, false, false] HT_ (h := ?_)
                refine pY 7 (some 58) #[true, true, true, true, true, true, true, true, false, true, false, false] HT_ (h := ?_)
                refine pY 8 (some 59) (ar 12 10) HT_ (h := ?_)
                refine one_ (i := 10) (N := none) (ar 12 11) rfl rfl (one_of HT_.out (by kernel_rfl)) (by decide) (fun K hK => ?_); refine wp_row 177 (.tmp 10) (.tmp 58) rfl g10 #[.string nx.k, .bool nx.t, .string nx.v, .int .i64 nx.lo, .int .i64 nx.fr] rfl rfl 177 _ B10.out (by kernel_rfl) rfl (by simp [Value.oneCell']) ?_; intro vq h_ q_; replace B10 := Lib.hid h_; clear h_; refine hK.out _ _ (below_of_grown hHeld q_ L10.out hHeld.size) (fun hHeld => ?_); clear hK K q_
                refine pY 11 (some 11) (ar 12 12) HT_ (h := ?_)
                refine done_ (done_of HT_.out (by kernel_rfl)) ?_
                replace HB := Lib.hid (below_step HB.out hHeld)
                replace BQ := Lib.hid (blk_below BQ.out hHeld)
                clear hHeld
                go_wp2_with (first
                  | ((with_reducible refine gate_dst (N := 64) rfl ?_); refine wpList_load_row rfl 177 (.tmp 10) rfl g10 rfl 177 #[.string nx.k, .bool nx.t, .string nx.v, .int .i64 nx.lo, .int .i64 nx.fr] (0, 0) _ B10.out Try.underlying177 rfl (by kernel_rfl) ?_)
                  | ((with_reducible refine gate_store (t := 177) (p := 65) rfl ?_); refine elem_mid_event rfl 177 (.tmp 65) (.tmp 64) rfl gq (a.toNat * 5) 0 #[.string nx.k, .bool nx.t, .string nx.v, .int .i64 nx.lo, .int .i64 nx.fr] rfl rfl 177 pq _ qq LQ.out BQ.out (by show 0 + 5 ≤ 5; decide) (by kernel_rfl) (by simp [Value.oneCell']) ?_; intro vs h_ q_; replace HB := Lib.hid (below_of_grown HB.out q_ GQ.out HB.out.size); replace BQ : RowKit.Hid (vs.heap[gq]? = some (.cells (pq ++ ssL nx ++ qq).toArray 177 (0, 0))) := Lib.hid h_; clear h_ q_)
                  | (fail))
                go_roundw
                case rel => exact ⟨i + 1, K2.set a.toNat nx, by first | rfl | go_num, ⟨by have := PI.out; omega, by have := PI.out; omega⟩, HS, Lib.hid ⟨CQ.out _ _ BQ.out, HB.out⟩, Lib.hid (by rw [List.length_set]; have := HL2.out; have := PI.out; omega)⟩
                case measure => have := PI.out; simp [intOf]; omega
          · have dk : decide (f < 0) = false := decide_eq_false hf
            obtain ⟨K2, eK⟩ : ∃ q, addS ks cc = q := ⟨_, rfl⟩
            have EK := Lib.hid eK
            have eK2 : K2 = ks := by rw [← eK]; unfold addS; rw [← HF.out, if_neg hf]
            have AK := Lib.hid (show atS ks cc = f.toNat by unfold atS; rw [← HF.out, if_neg hf])
            have A0 := Lib.hid (show 0 ≤ f by omega)
            clear hf HF eK
            subst eK2
            go_upto_region 15 with (fail)
            obtain ⟨a, ea⟩ : ∃ q, q = f := ⟨_, rfl⟩
            subst ea
            have HAK := Lib.hid (show addS K2 cc = K2 ∧ atS K2 cc = a.toNat from ⟨EK.out, AK.out⟩)
            have HK := Lib.hid (show 0 ≤ a ∧ a < (K2.length : Int) ∧ a.toNat < K2.length by have h1 := at_lt K2 cc; rw [HAK.out.1, HAK.out.2] at h1; have h2 := A0.out; omega)
            have pK := eq_true HK.out.1
            have qK := eq_true HK.out.2.1
            obtain ⟨s, es⟩ : ∃ q, kl K2 a.toNat = q := ⟨_, rfl⟩
            have ES := Lib.hid es
            clear es
            obtain ⟨gq, cq, pq, qq, eq_, bq_, cq_, lq_, hq_, closeq⟩ := R_splitS RV.out a.toNat HK.out.2.2
            cases eq_
            rw [ES.out] at hq_
            have BQ := Lib.hid hq_
            have LQ := Lib.hid lq_
            have CQ := Lib.hid closeq
            have GQ := Lib.hid bq_
            clear hq_ lq_ closeq bq_ cq_ RV
            obtain ⟨nx, ob, ep⟩ : ∃ nx ob, aftF s cc = (nx, ob) := ⟨_, _, rfl⟩
            have HAF := Lib.hid (fun W => (show Calls Try.prog 93 #[.agg #[.string s.k, .bool s.t, .string s.v, .int .i64 s.lo, .int .i64 s.fr], .agg #[.int .i64 cc.f0, .int .i64 cc.f1, .bool cc.f2, .string cc.f3, .int .i64 cc.f4.f0, .string cc.f4.f1, .string cc.f4.f2, .int .i64 cc.f4.f3, .int .i64 cc.f5, .int .i64 cc.f6, .int .i64 cc.f7.f0, .int .i64 cc.f7.f1, .string cc.f8.f0, .string cc.f8.f1, .int .i64 cc.f8.f2, .bool cc.f9]] W (fun e w' => e = .returned (.tuple #[.agg #[.string nx.k, .bool nx.t, .string nx.v, .int .i64 nx.lo, .int .i64 nx.fr], .bool ob]) ∧ Below W.heap.size W w') from by have h := after_any s cc W; rw [ep] at h; exact h))
            have HSP := Lib.hid (show stpS K2 cc = if ob = true then some (K2.set a.toNat nx) else none by unfold stpS; rw [HAK.out.1, HAK.out.2, ES.out, ep])
            have HL2 := Lib.hid (show K2.length ≤ i.toNat + 1 by have h1 := add_len K2 cc; rw [HAK.out.1] at h1; have h2 := HL.out; omega)
            clear ep
            cases ob with
            | false =>
              have HS := Lib.hid (show fin = false by rw [HO2.out, HSP.out]; rfl)
              have HAFT := HAF
              clear HAF
              refine start_ (n := 12) (S := fun w1 => Below (World.heap wr).size wr w1) (ds := []) (ar 12 0) (by kernel_rfl) rfl rfl (below_drew1 (Below.refl _ _)) (fun hHeld => ?_); refine with_tabW rrn.tab15 rrn.bits15 (fun HT_ HW_ => ?_)
              generalize World.drew wr = wz at hHeld ⊢
              refine pY 0 (some 52) (ar 12 1) HT_ (h := ?_)
              refine pY 1 (some 53) (ar 12 2) HT_ (h := ?_)
              refine pY 2 (some 54) (ar 12 3) HT_ (h := ?_)
              refine take_ (i := 3) (N := (some 55)) (v := .agg #[.string s.k, .bool s.t, .string s.v, .int .i64 s.lo, .int .i64 s.fr]) (a' := ?_) (ar 12 4) rfl rfl (take_ofW HT_.out HW_.out (by kernel_rfl)) (fun _ _ _ h => h) (Or.inl ⟨by rfl, fun w1 hs1 => exec_load_p 177 (.tmp 54) rfl ⟨gq, a.toNat * 5, none⟩ rfl [.string s.k, .bool s.t, .string s.v, .int .i64 s.lo, .int .i64 s.fr] _ (split_cells (blk_below BQ.out hs1) LQ.out) Try.underlying177 rfl (by kernel_rfl)⟩) hHeld ?_ ?_; rotate_left; (· simp only [Act.put, List.setIfInBounds_toArray, List.set_cons_zero, List.set_cons_succ, i64_w, i32_w]; rfl)
              refine take_ (i := 4) (N := (some 56)) (v := .agg #[.int .i64 cc.f0, .int .i64 cc.f1, .bool cc.f2, .string cc.f3, .int .i64 cc.f4.f0, .string cc.f4.f1, .string cc.f4.f2, .int .i64 cc.f4.f3, .int .i64 cc.f5, .int .i64 cc.f6, .int .i64 cc.f7.f0, .int .i64 cc.f7.f1, .string cc.f8.f0, .string cc.f8.f1, .int .i64 cc.f8.f2, .bool cc.f9]) (a' := ?_) (ar 12 5) rfl rfl (take_ofW HT_.out HW_.out (by kernel_rfl)) (fun _ _ _ h => h) (Or.inl ⟨by rfl, fun w1 hs1 => exec_load_p 39 (.tmp 7) rfl ⟨g7, 0, none⟩ rfl [.int .i64 cc.f0, .int .i64 cc.f1, .bool cc.f2, .string cc.f3, .int .i64 cc.f4.f0, .string cc.f4.f1, .string cc.f4.f2, .int .i64 cc.f4.f3, .int .i64 cc.f5, .int .i64 cc.f6, .int .i64 cc.f7.f0, .int .i64 cc.f7.f1, .string cc.f8.f0, .string cc.f8.f1, .int .i64 cc.f8.f2, .bool cc.f9] _ (mid_cells (blk_below B7.out hs1) rfl) Try.underlying39 rfl (by kernel_rfl)⟩) hHeld ?_ ?_; rotate_left; (· simp only [Act.put, List.setIfInBounds_toArray, List.set_cons_zero, List.set_cons_succ, i64_w, i32_w]; rfl)
              refine two_ (i := 5) (j := 9) (Ni := some 57) (Nj := some 10) (ar 12 6) #[true, true, true, true, true, false, false, false, false, true, false, false] rfl rfl rfl rfl (two_of HT_.out (by kernel_rfl)) (by decide) (by decide) (fun K hK => ?_) (fun K hK => ?_)
              · refine goes_ Try.func93 (by kernel_rfl) rfl #[.agg #[.string s.k, .bool s.t, .string s.v, .int .i64 s.lo, .int .i64 s.fr], .agg #[.int .i64 cc.f0, .int .i64 cc.f1, .bool cc.f2, .string cc.f3, .int .i64 cc.f4.f0, .string cc.f4.f1, .string cc.f4.f2, .int .i64 cc.f4.f3, .int .i64 cc.f5, .int .i64 cc.f6, .int .i64 cc.f7.f0, .int .i64 cc.f7.f1, .string cc.f8.f0, .string cc.f8.f1, .int .i64 cc.f8.f2, .bool cc.f9]] (by rfl) rfl rfl (by (try simp only [List.map_toArray, List.map_cons, List.map_nil]); first | done | rfl) ?_; (with_reducible refine (HAFT.out _).mono ?_); rintro e w12 ⟨rfl, hb⟩; refine ⟨_, rfl, ?_⟩; refine hK.out _ _ (below_step hHeld hb) (fun hHeld => ?_); clear hK K hb; refine norm_ (a' := ?_) ?_ ?_; rotate_left; (· show Act.put _ (some 57) _ = _; simp only [Act.put, List.setIfInBounds_toArray, List.set_cons_zero, List.set_cons_succ, i64_w, i32_w]; rfl)
                refine pY 6 (some 51) (ar 12 7) HT_ (h := ?_)
                refine pY 7 (some 58) (ar 12 8) HT_ (h := ?_)
                refine pY 8 (some 59) (ar 12 9) HT_ (h := ?_)
                refine one_ (i := 9) (N := (some 10)) (ar 12 10) rfl rfl (one_of HT_.out (by kernel_rfl)) (by decide) (fun K hK => ?_); refine wp_box (N := 10) rfl (cs := #[.string ⟨#[]⟩, .bool false, .string ⟨#[]⟩, .int .i64 0, .int .i64 0]) (t := 177) (by first | (go_simp; done) | (go_simp; rfl)) ?_; intro g10 e10 w10 h10 b10; have L10 := Lib.hid (Nat.le_trans hHeld.size (Nat.le_of_eq e10.symm)); have B10 := Lib.hid h10; refine hK.out _ _ (below_step hHeld b10) (fun hHeld => ?_); clear hK K h10 b10 e10; refine norm_ (a' := ?_) ?_ ?_; rotate_left; (· show Act.put _ (some 10) _ = _; simp only [Act.put, List.setIfInBounds_toArray, List.set_cons_zero, List.set_cons_succ, i64_w, i32_w]; rfl)
                refine one_ (i := 10) (N := none) (ar 12 11) rfl rfl (one_of HT_.out (by kernel_rfl)) (by decide) (fun K hK => ?_); refine wp_row 177 (.tmp 10) (.tmp 58) rfl g10 #[.string nx.k, .bool nx.t, .string nx.v, .int .i64 nx.lo, .int .i64 nx.fr] rfl rfl 177 _ B10.out (by kernel_rfl) rfl (by simp [Value.oneCell']) ?_; intro vq h_ q_; replace B10 := Lib.hid h_; clear h_; refine hK.out _ _ (below_of_grown hHeld q_ L10.out hHeld.size) (fun hHeld => ?_); clear hK K q_
                refine pY 11 (some 11) (ar 12 12) HT_ (h := ?_)
                refine done_ (done_of HT_.out (by kernel_rfl)) ?_
                replace HB := Lib.hid (below_step HB.out hHeld)
                replace BQ := Lib.hid (blk_below BQ.out hHeld)
                clear hHeld
                go_wp2_with (fail)
                go_ret
                exact ⟨by rw [HS.out]; rfl, HB.out⟩
              · refine wp_box (N := 10) rfl (cs := #[.string ⟨#[]⟩, .bool false, .string ⟨#[]⟩, .int .i64 0, .int .i64 0]) (t := 177) (by first | (go_simp; done) | (go_simp; rfl)) ?_; intro g10 e10 w10 h10 b10; have L10 := Lib.hid (Nat.le_trans hHeld.size (Nat.le_of_eq e10.symm)); have B10 := Lib.hid h10; refine hK.out _ _ (below_step hHeld b10) (fun hHeld => ?_); clear hK K h10 b10 e10; refine norm_ (a' := ?_) ?_ ?_; rotate_left; (· show Act.put _ (some 10) _ = _; simp only [Act.put, List.setIfInBounds_toArray, List.set_cons_zero, List.set_cons_succ, i64_w, i32_w]; rfl)
                refine one_ (i := 5) (N := (some 57)) #[true, true, true, true, true, true, false, false, false, true, false, false] rfl rfl (one_of HT_.out (by kernel_rfl)) (by decide) (fun K hK => ?_); refine goes_ Try.func93 (by kernel_rfl) rfl #[.agg #[.string s.k, .bool s.t, .string s.v, .int .i64 s.lo, .int .i64 s.fr], .agg #[.int .i64 cc.f0, .int .i64 cc.f1, .bool cc.f2, .string cc.f3, .int .i64 cc.f4.f0, .string cc.f4.f1, .string cc.f4.f2, .int .i64 cc.f4.f3, .int .i64 cc.f5, .int .i64 cc.f6, .int .i64 cc.f7.f0, .int .i64 cc.f7.f1, .string cc.f8.f0, .string cc.f8.f1, .int .i64 cc.f8.f2, .bool cc.f9]] (by rfl) rfl rfl (by (try simp only [List.map_toArray, List.map_cons, List.map_nil]); first | done | rfl) ?_; (with_reducible refine (HAFT.out _).mono ?_); rintro e w12 ⟨rfl, hb⟩; refine ⟨_, rfl, ?_⟩; replace B10 := Lib.hid (blk_below B10.out hb); refine hK.out _ _ (below_step hHeld hb) (fun hHeld => ?_); clear hK K hb; refine norm_ (a' := ?_) ?_ ?_; rotate_left; (· show Act.put _ (some 57) _ = _; simp only [Act.put, List.setIfInBounds_toArray, List.set_cons_zero, List.set_cons_succ, i64_w, i32_w]; rfl)
                refine pY 6 (some 51) #[true, true, true, true, true, true, true, false, false, true, false, false] HT_ (h := ?_)
                refine pY 7 (some 58) #[true, true, true, true, true, true, true, true, false, true, false, false] HT_ (h := ?_)
                refine pY 8 (some 59) (ar 12 10) HT_ (h := ?_)
                refine one_ (i := 10) (N := none) (ar 12 11) rfl rfl (one_of HT_.out (by kernel_rfl)) (by decide) (fun K hK => ?_); refine wp_row 177 (.tmp 10) (.tmp 58) rfl g10 #[.string nx.k, .bool nx.t, .string nx.v, .int .i64 nx.lo, .int .i64 nx.fr] rfl rfl 177 _ B10.out (by kernel_rfl) rfl (by simp [Value.oneCell']) ?_; intro vq h_ q_; replace B10 := Lib.hid h_; clear h_; refine hK.out _ _ (below_of_grown hHeld q_ L10.out hHeld.size) (fun hHeld => ?_); clear hK K q_
                refine pY 11 (some 11) (ar 12 12) HT_ (h := ?_)
                refine done_ (done_of HT_.out (by kernel_rfl)) ?_
                replace HB := Lib.hid (below_step HB.out hHeld)
                replace BQ := Lib.hid (blk_below BQ.out hHeld)
                clear hHeld
                go_wp2_with (fail)
                go_ret
                exact ⟨by rw [HS.out]; rfl, HB.out⟩
            | true =>
              have HS := Lib.hid (show fin = runB ((xs.drop (i + 1).toNat).map (rd_T39 l)) (K2.set a.toNat nx) by rw [HO2.out, HSP.out]; rfl)
              have HAFT := HAF
              clear HAF
              refine start_ (n := 12) (S := fun w1 => Below (World.heap wr).size wr w1) (ds := []) (ar 12 0) (by kernel_rfl) rfl rfl (below_drew1 (Below.refl _ _)) (fun hHeld => ?_); refine with_tabW rrn.tab15 rrn.bits15 (fun HT_ HW_ => ?_)
              generalize World.drew wr = wz at hHeld ⊢
              refine pY 0 (some 52) (ar 12 1) HT_ (h := ?_)
              refine pY 1 (some 53) (ar 12 2) HT_ (h := ?_)
              refine pY 2 (some 54) (ar 12 3) HT_ (h := ?_)
              refine take_ (i := 3) (N := (some 55)) (v := .agg #[.string s.k, .bool s.t, .string s.v, .int .i64 s.lo, .int .i64 s.fr]) (a' := ?_) (ar 12 4) rfl rfl (take_ofW HT_.out HW_.out (by kernel_rfl)) (fun _ _ _ h => h) (Or.inl ⟨by rfl, fun w1 hs1 => exec_load_p 177 (.tmp 54) rfl ⟨gq, a.toNat * 5, none⟩ rfl [.string s.k, .bool s.t, .string s.v, .int .i64 s.lo, .int .i64 s.fr] _ (split_cells (blk_below BQ.out hs1) LQ.out) Try.underlying177 rfl (by kernel_rfl)⟩) hHeld ?_ ?_; rotate_left; (· simp only [Act.put, List.setIfInBounds_toArray, List.set_cons_zero, List.set_cons_succ, i64_w, i32_w]; rfl)
              refine take_ (i := 4) (N := (some 56)) (v := .agg #[.int .i64 cc.f0, .int .i64 cc.f1, .bool cc.f2, .string cc.f3, .int .i64 cc.f4.f0, .string cc.f4.f1, .string cc.f4.f2, .int .i64 cc.f4.f3, .int .i64 cc.f5, .int .i64 cc.f6, .int .i64 cc.f7.f0, .int .i64 cc.f7.f1, .string cc.f8.f0, .string cc.f8.f1, .int .i64 cc.f8.f2, .bool cc.f9]) (a' := ?_) (ar 12 5) rfl rfl (take_ofW HT_.out HW_.out (by kernel_rfl)) (fun _ _ _ h => h) (Or.inl ⟨by rfl, fun w1 hs1 => exec_load_p 39 (.tmp 7) rfl ⟨g7, 0, none⟩ rfl [.int .i64 cc.f0, .int .i64 cc.f1, .bool cc.f2, .string cc.f3, .int .i64 cc.f4.f0, .string cc.f4.f1, .string cc.f4.f2, .int .i64 cc.f4.f3, .int .i64 cc.f5, .int .i64 cc.f6, .int .i64 cc.f7.f0, .int .i64 cc.f7.f1, .string cc.f8.f0, .string cc.f8.f1, .int .i64 cc.f8.f2, .bool cc.f9] _ (mid_cells (blk_below B7.out hs1) rfl) Try.underlying39 rfl (by kernel_rfl)⟩) hHeld ?_ ?_; rotate_left; (· simp only [Act.put, List.setIfInBounds_toArray, List.set_cons_zero, List.set_cons_succ, i64_w, i32_w]; rfl)
              refine two_ (i := 5) (j := 9) (Ni := some 57) (Nj := some 10) (ar 12 6) #[true, true, true, true, true, false, false, false, false, true, false, false] rfl rfl rfl rfl (two_of HT_.out (by kernel_rfl)) (by decide) (by decide) (fun K hK => ?_) (fun K hK => ?_)
              · refine goes_ Try.func93 (by kernel_rfl) rfl #[.agg #[.string s.k, .bool s.t, .string s.v, .int .i64 s.lo, .int .i64 s.fr], .agg #[.int .i64 cc.f0, .int .i64 cc.f1, .bool cc.f2, .string cc.f3, .int .i64 cc.f4.f0, .string cc.f4.f1, .string cc.f4.f2, .int .i64 cc.f4.f3, .int .i64 cc.f5, .int .i64 cc.f6, .int .i64 cc.f7.f0, .int .i64 cc.f7.f1, .string cc.f8.f0, .string cc.f8.f1, .int .i64 cc.f8.f2, .bool cc.f9]] (by rfl) rfl rfl (by (try simp only [List.map_toArray, List.map_cons, List.map_nil]); first | done | rfl) ?_; (with_reducible refine (HAFT.out _).mono ?_); rintro e w12 ⟨rfl, hb⟩; refine ⟨_, rfl, ?_⟩; refine hK.out _ _ (below_step hHeld hb) (fun hHeld => ?_); clear hK K hb; refine norm_ (a' := ?_) ?_ ?_; rotate_left; (· show Act.put _ (some 57) _ = _; simp only [Act.put, List.setIfInBounds_toArray, List.set_cons_zero, List.set_cons_succ, i64_w, i32_w]; rfl)
                refine pY 6 (some 51) (ar 12 7) HT_ (h := ?_)
                refine pY 7 (some 58) (ar 12 8) HT_ (h := ?_)
                refine pY 8 (some 59) (ar 12 9) HT_ (h := ?_)
                refine one_ (i := 9) (N := (some 10)) (ar 12 10) rfl rfl (one_of HT_.out (by kernel_rfl)) (by decide) (fun K hK => ?_); refine wp_box (N := 10) rfl (cs := #[.string ⟨#[]⟩, .bool false, .string ⟨#[]⟩, .int .i64 0, .int .i64 0]) (t := 177) (by first | (go_simp; done) | (go_simp; rfl)) ?_; intro g10 e10 w10 h10 b10; have L10 := Lib.hid (Nat.le_trans hHeld.size (Nat.le_of_eq e10.symm)); have B10 := Lib.hid h10; refine hK.out _ _ (below_step hHeld b10) (fun hHeld => ?_); clear hK K h10 b10 e10; refine norm_ (a' := ?_) ?_ ?_; rotate_left; (· show Act.put _ (some 10) _ = _; simp only [Act.put, List.setIfInBounds_toArray, List.set_cons_zero, List.set_cons_succ, i64_w, i32_w]; rfl)
                refine one_ (i := 10) (N := none) (ar 12 11) rfl rfl (one_of HT_.out (by kernel_rfl)) (by decide) (fun K hK => ?_); refine wp_row 177 (.tmp 10) (.tmp 58) rfl g10 #[.string nx.k, .bool nx.t, .string nx.v, .int .i64 nx.lo, .int .i64 nx.fr] rfl rfl 177 _ B10.out (by kernel_rfl) rfl (by simp [Value.oneCell']) ?_; intro vq h_ q_; replace B10 := Lib.hid h_; clear h_; refine hK.out _ _ (below_of_grown hHeld q_ L10.out hHeld.size) (fun hHeld => ?_); clear hK K q_
                refine pY 11 (some 11) (ar 12 12) HT_ (h := ?_)
                refine done_ (done_of HT_.out (by kernel_rfl)) ?_
                replace HB := Lib.hid (below_step HB.out hHeld)
                replace BQ := Lib.hid (blk_below BQ.out hHeld)
                clear hHeld
                go_wp2_with (first
                  | ((with_reducible refine gate_dst (N := 64) rfl ?_); refine wpList_load_row rfl 177 (.tmp 10) rfl g10 rfl 177 #[.string nx.k, .bool nx.t, .string nx.v, .int .i64 nx.lo, .int .i64 nx.fr] (0, 0) _ B10.out Try.underlying177 rfl (by kernel_rfl) ?_)
                  | ((with_reducible refine gate_store (t := 177) (p := 65) rfl ?_); refine elem_mid_event rfl 177 (.tmp 65) (.tmp 64) rfl gq (a.toNat * 5) 0 #[.string nx.k, .bool nx.t, .string nx.v, .int .i64 nx.lo, .int .i64 nx.fr] rfl rfl 177 pq _ qq LQ.out BQ.out (by show 0 + 5 ≤ 5; decide) (by kernel_rfl) (by simp [Value.oneCell']) ?_; intro vs h_ q_; replace HB := Lib.hid (below_of_grown HB.out q_ GQ.out HB.out.size); replace BQ : RowKit.Hid (vs.heap[gq]? = some (.cells (pq ++ ssL nx ++ qq).toArray 177 (0, 0))) := Lib.hid h_; clear h_ q_)
                  | (fail))
                go_roundw
                case rel => exact ⟨i + 1, K2.set a.toNat nx, by first | rfl | go_num, ⟨by have := PI.out; omega, by have := PI.out; omega⟩, HS, Lib.hid ⟨CQ.out _ _ BQ.out, HB.out⟩, Lib.hid (by rw [List.length_set]; have := HL2.out; have := PI.out; omega)⟩
                case measure => have := PI.out; simp [intOf]; omega
              · refine wp_box (N := 10) rfl (cs := #[.string ⟨#[]⟩, .bool false, .string ⟨#[]⟩, .int .i64 0, .int .i64 0]) (t := 177) (by first | (go_simp; done) | (go_simp; rfl)) ?_; intro g10 e10 w10 h10 b10; have L10 := Lib.hid (Nat.le_trans hHeld.size (Nat.le_of_eq e10.symm)); have B10 := Lib.hid h10; refine hK.out _ _ (below_step hHeld b10) (fun hHeld => ?_); clear hK K h10 b10 e10; refine norm_ (a' := ?_) ?_ ?_; rotate_left; (· show Act.put _ (some 10) _ = _; simp only [Act.put, List.setIfInBounds_toArray, List.set_cons_zero, List.set_cons_succ, i64_w, i32_w]; rfl)
                refine one_ (i := 5) (N := (some 57)) #[true, true, true, true, true, true, false, false, false, true, false, false] rfl rfl (one_of HT_.out (by kernel_rfl)) (by decide) (fun K hK => ?_); refine goes_ Try.func93 (by kernel_rfl) rfl #[.agg #[.string s.k, .bool s.t, .string s.v, .int .i64 s.lo, .int .i64 s.fr], .agg #[.int .i64 cc.f0, .int .i64 cc.f1, .bool cc.f2, .string cc.f3, .int .i64 cc.f4.f0, .string cc.f4.f1, .string cc.f4.f2, .int .i64 cc.f4.f3, .int .i64 cc.f5, .int .i64 cc.f6, .int .i64 cc.f7.f0, .int .i64 cc.f7.f1, .string cc.f8.f0, .string cc.f8.f1, .int .i64 cc.f8.f2, .bool cc.f9]] (by rfl) rfl rfl (by (try simp only [List.map_toArray, List.map_cons, List.map_nil]); first | done | rfl) ?_; (with_reducible refine (HAFT.out _).mono ?_); rintro e w12 ⟨rfl, hb⟩; refine ⟨_, rfl, ?_⟩; replace B10 := Lib.hid (blk_below B10.out hb); refine hK.out _ _ (below_step hHeld hb) (fun hHeld => ?_); clear hK K hb; refine norm_ (a' := ?_) ?_ ?_; rotate_left; (· show Act.put _ (some 57) _ = _; simp only [Act.put, List.setIfInBounds_toArray, List.set_cons_zero, List.set_cons_succ, i64_w, i32_w]; rfl)
                refine pY 6 (some 51) #[true, true, true, true, true, true, true, false, false, true, false, false] HT_ (h := ?_)
                refine pY 7 (some 58) #[true, true, true, true, true, true, true, true, false, true, false, false] HT_ (h := ?_)
                refine pY 8 (some 59) (ar 12 10) HT_ (h := ?_)
                refine one_ (i := 10) (N := none) (ar 12 11) rfl rfl (one_of HT_.out (by kernel_rfl)) (by decide) (fun K hK => ?_); refine wp_row 177 (.tmp 10) (.tmp 58) rfl g10 #[.string nx.k, .bool nx.t, .string nx.v, .int .i64 nx.lo, .int .i64 nx.fr] rfl rfl 177 _ B10.out (by kernel_rfl) rfl (by simp [Value.oneCell']) ?_; intro vq h_ q_; replace B10 := Lib.hid h_; clear h_; refine hK.out _ _ (below_of_grown hHeld q_ L10.out hHeld.size) (fun hHeld => ?_); clear hK K q_
                refine pY 11 (some 11) (ar 12 12) HT_ (h := ?_)
                refine done_ (done_of HT_.out (by kernel_rfl)) ?_
                replace HB := Lib.hid (below_step HB.out hHeld)
                replace BQ := Lib.hid (blk_below BQ.out hHeld)
                clear hHeld
                go_wp2_with (first
                  | ((with_reducible refine gate_dst (N := 64) rfl ?_); refine wpList_load_row rfl 177 (.tmp 10) rfl g10 rfl 177 #[.string nx.k, .bool nx.t, .string nx.v, .int .i64 nx.lo, .int .i64 nx.fr] (0, 0) _ B10.out Try.underlying177 rfl (by kernel_rfl) ?_)
                  | ((with_reducible refine gate_store (t := 177) (p := 65) rfl ?_); refine elem_mid_event rfl 177 (.tmp 65) (.tmp 64) rfl gq (a.toNat * 5) 0 #[.string nx.k, .bool nx.t, .string nx.v, .int .i64 nx.lo, .int .i64 nx.fr] rfl rfl 177 pq _ qq LQ.out BQ.out (by show 0 + 5 ≤ 5; decide) (by kernel_rfl) (by simp [Value.oneCell']) ?_; intro vs h_ q_; replace HB := Lib.hid (below_of_grown HB.out q_ GQ.out HB.out.size); replace BQ : RowKit.Hid (vs.heap[gq]? = some (.cells (pq ++ ssL nx ++ qq).toArray 177 (0, 0))) := Lib.hid h_; clear h_ q_)
                  | (fail))
                go_roundw
                case rel => exact ⟨i + 1, K2.set a.toNat nx, by first | rfl | go_num, ⟨by have := PI.out; omega, by have := PI.out; omega⟩, HS, Lib.hid ⟨CQ.out _ _ BQ.out, HB.out⟩, Lib.hid (by rw [List.length_set]; have := HL2.out; have := PI.out; omega)⟩
                case measure => have := PI.out; simp [intOf]; omega
    · have hnl : decide (i < (xs.length : Int)) = false := decide_eq_false hlt
      have ei : i = (xs.length : Int) := by omega
      subst ei
      have HF := Lib.hid (show fin = true by rw [HO.out, Int.toNat_natCast, List.drop_length]; rfl)
      have HB := Lib.hid HRB.out.2
      clear i0 i1 hlt HRB
      go_wp2_with (fail)
      go_ret
      exact ⟨by rw [HF.out]; rfl, HB.out⟩
end Go.Proofs.Ytbakmkoppieelaa.PLinearChecks

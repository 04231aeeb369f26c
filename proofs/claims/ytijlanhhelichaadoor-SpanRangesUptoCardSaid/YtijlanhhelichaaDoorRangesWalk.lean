/- What is proved: the walk of the law SpanRanges: it returns true where there are at most 1048576 numbers; the conditions stand in the theorem. -/
import Derived.Test.YtijlanhhelichaaDoorRangesLoop
import Derived.Lib.Hide
import Derived.Deep.DeepCutAuto
import Derived.Deep.CutBlock
import Derived.Laws.Rows
namespace Go.Proofs.YtijlanhhelichaaDoor.RangesWalk
open Go.RowKit Go.Proofs.YtijlanhhelichaaDoorW.PrintWords Go.Proofs.YtijlanhhelichaaDoorW.PrintLast Go.Proofs.YtijlanhhelichaaDoorW.PrintMore Go.Proofs.YtijlanhhelichaaDoor.PSpanRanges Go.Proofs.YtijlanhhelichaaDoor.RangesLow Go.Proofs.YtijlanhhelichaaDoor.RangesPure Go.Proofs.YtijlanhhelichaaDoor.Runs
set_option linter.unusedVariables false
set_option linter.unusedSimpArgs false
theorem one_law : span_Ranges.f 8 1 [0] = some ((refN (inL [0]) 16).map (img 1), 0) := by
  have hd : (1 : Int) = 1 ∨ (1 : Int) = 2 ∨ (1 : Int) = 3 := .inl rfl
  obtain ⟨c1, -, c3, -, -⟩ := count_in 1 hd
  have hN := normal_law hd [0] (fun b hb => by simp at hb; subst hb; decide) (by decide)
  have h := prog_loop hd [0] (by decide) 1 0 8 (by decide) (by decide)
  have hv : (([0] : List Int).drop 0).all (valid 1) = true := by decide
  rw [if_pos hv] at h
  have e : (([0] : List Int).map (fun b => rng 1 b.toNat)) = ([0] : List Nat).map (rng 1) := rfl
  rw [e, hN, Option.bind_some] at h
  unfold span_Ranges.f
  rw [show (8 : Nat) = 6 + 2 from rfl, count_up 1 _ c1, Option.bind_some, if_neg (by omega)]
  exact h
theorem one_len : ((refN (inL [0]) 16).map (img 1)).length = 1 := by rw [List.length_map]; decide
theorem ints_law (bs : List Int) (hm : bs.length ≤ 4294967296) : ∀ (m i k : Nat), i + m = bs.length → 2 * m + 2 ≤ k → hawserlaw06_sameInts.l0 k bs bs (i : Int) = some true := by
  intro m
  induction m with
  | zero =>
    intro i k hi hk
    obtain ⟨k, rfl⟩ : ∃ q, k = q + 2 := ⟨k - 2, by omega⟩
    rw [hawserlaw06_sameInts.l0, if_neg (by omega), hawserlaw06_sameInts.j1, if_neg (by decide)]
    simp
  | succ m ih =>
    intro i k hi hk
    obtain ⟨k, rfl⟩ : ∃ q, k = q + 2 := ⟨k - 2, by omega⟩
    rw [hawserlaw06_sameInts.l0, if_pos (by omega), show decide ((i : Int) < (bs.length : Int)) = true from decide_eq_true (by omega), hawserlaw06_sameInts.j1, if_pos rfl, if_pos (by omega), if_pos (by omega), if_pos (by omega), if_pos rfl, w_step i (by omega)]
    exact ih (i + 1) k (by omega) (by omega)
theorem info3 : (Tryd.prog.info? 3).map (fun i => (i.zero, i.size, i.bytes)) = some (some (.int .i64 0), 1, 8) := by kernel_rfl
theorem row_C (w : World) (xs : List Int) (hx : xs.length ≤ 100) (cs : Array Value) (hcs : cs.toList = xs.map (Value.int .i64)) : Kd.C (Kd.int .i64) (w.alloc (.cells cs 3)) (some ⟨w.heap.size, 0, none⟩) xs.length xs := by
  refine Kd.C_of_reads (d := (0 : Int)) (readsInt_of.1 ⟨rfl, by omega, fun _ => ⟨_, rfl, fun j hj => ?_⟩⟩)
  rw [Addr.add_lit, Nat.zero_add, cell_of_row _ w.heap.size j _ _ _ (heap_alloc_new w _)]
  have : cs[j]? = cs.toList[j]? := by simp
  rw [this, hcs]
  simp [List.getD, List.getElem?_eq_getElem hj]
def mks : List Int := [-91, -92, -93, -94, -95, -96]
theorem mks_at (j : Nat) (h : j < 6) : mks.getD j 0 = -91 - (j : Int) := by
  match j, h with
  | 0, _ => rfl
  | 1, _ => rfl
  | 2, _ => rfl
  | 3, _ => rfl
  | 4, _ => rfl
  | 5, _ => rfl
theorem abs_r {P : Program} {c : Code} {Q : Exit → Act → World → Prop} {a : Act} {w : World} (h : ∀ w', w' = w → Code.wp P c Q a w') : Code.wp P c Q a w := h w rfl
set_option maxRecDepth 100000 in
set_option maxHeartbeats 16000000 in
theorem ranges_walk (w : World) (d : Int) (A : Option Addr) (c : Nat) (bs : List Int) (hr : Kd.C (Kd.int .i64) w A bs.length bs) (hc : bs.length ≤ c) (hl : bs.length ≤ 1048576) :
    Calls Tryd.prog 7 #[.int .i64 d, .slice A bs.length c] w fun e w' => e = .returned (.bool true) ∧ Below w.heap.size w w' := by
  obtain ⟨kp, kr, ks, got, want, er, hp, hrr, hs⟩ := ranges_law d bs hl
  have hprog : ∀ W A' c', Kd.C (Kd.int .i64) W A' bs.length bs → bs.length ≤ c' → Calls Tryd.prog 27 #[.int .i64 d, .slice A' bs.length c'] W fun e w' => ∃ v0 : Value, e = .returned (.tuple #[v0, .int .i64 er]) ∧ Kd.R k28 28 w' W.heap.size (fun _ => True) v0 got ∧ Below W.heap.size W w' := fun W A' c' h1 h2 => span_Ranges.calls kp d A' c' bs got er W h1 h2 hp
  have href : ∀ W, Kd.C (Kd.int .i64) W A bs.length bs → Calls Tryd.prog 28 #[.int .i64 d, .slice A bs.length c] W fun e w' => ∃ v0 : Value, e = .returned (.tuple #[v0, .int .i64 er]) ∧ Kd.R k31 31 w' W.heap.size (fun _ => True) v0 want ∧ Below W.heap.size W w' := fun W h1 => hawserref06_Ranges.calls kr d A c bs want er W h1 hc hrr
  have hints : ∀ W A' c', Kd.C (Kd.int .i64) W A' bs.length bs → bs.length ≤ c' → Kd.C (Kd.int .i64) W A bs.length bs → Calls Tryd.prog 29 #[.slice A' bs.length c', .slice A bs.length c] W fun e w' => e = .returned (.bool true) ∧ Drawn0 W w' := fun W A' c' h1 h2 h3 => hawserlaw06_sameInts.calls (2 * bs.length + 2) A' c' bs A c bs true W h1 h2 h3 hc (ints_law bs (by omega) bs.length 0 _ (by omega) (Nat.le_refl _))
  obtain ⟨al, hal⟩ : ∃ al, RowKit.Hid (al = bs ++ mks) := ⟨_, Lib.hid rfl⟩
  have hall : al.length = bs.length + 6 := by rw [hal.out, List.length_append]; rfl
  have hat : al.take bs.length = bs := by rw [hal.out]; simp
  have ham : ∀ j, j < 6 → al.getD (bs.length + j) 0 = -91 - (j : Int) := by
    intro j hj
    rw [hal.out, ← mks_at j hj]
    simp [List.getD, List.getElem?_append_right]
  obtain ⟨n, hn⟩ : ∃ n, RowKit.Hid (n = bs.length) := ⟨_, Lib.hid rfl⟩
  rw [← hn.out] at hr hc hl hprog href hints hall hat ham ⊢
  have R := Lib.hid (And.intro hr (And.intro hl (And.intro hall (And.intro hat ham))))
  have S := Lib.hid hs
  clear hr hall hat ham hs hp hrr
  go_enter Tryd.func7, Tryd.ntmps7
  go_upto_region 2 with (first
    | (at_builtin; refine Kd.R_append_rows (Kd.int .i64) (Rr := (Kd.int .i64).K w) (w0 := w) w.heap.size rfl (.const (.slice none 0 0)) (.tmp 14) 59 3 (.int .i64 0) 8 rfl Tryd.underlying59 info3 rfl (by decide) (by decide) (.slice none 0 0) [] bs A n c (fun _ => True) (fun _ => False) rfl rfl (Kd.R_nil _ _ _ _ _) R.out.1 (fun x cs h => h) (fun _ h => h.elim) (fun _ _ => trivial) (Below.refl _ _) (Nat.le_refl _) (by have := R.out.2.1; simp; omega) ?_; intro v1 w1 hR1 hb1 hg1 hat1)
    | (at_builtin; refine Kd.R_append_rows (Kd.int .i64) (Rr := (Kd.int .i64).K (w1.alloc (.cells #[.int .i64 (-91), .int .i64 (-92), .int .i64 (-93), .int .i64 (-94), .int .i64 (-95), .int .i64 (-96)] 3))) (w0 := w) w.heap.size rfl (.tmp 15) (.tmp 16) 59 3 (.int .i64 0) 8 rfl Tryd.underlying59 info3 rfl (by decide) (by decide) v1 bs mks (some ⟨w1.heap.size, 0, none⟩) 6 6 (fun _ => True) (fun _ => False) rfl rfl (Kd.R_below hR1 ((Below.refl _ _).alloc (Nat.le_refl _) _)) (row_C w1 mks (by decide) _ rfl) (fun x cs h => h) (fun _ h => h.elim) (fun _ _ => trivial) ((hb1.trans (((Below.refl _ _).alloc (Nat.le_refl _) _).mono hb1.size))) (Nat.le_trans hb1.size (by rw [World.size_alloc]; omega)) (by have := R.out.2.1; rw [← hn.out]; omega) ?_; intro v2 w2 hR2 hb2 hg2 hat2))
  rw [← hal.out] at hR2
  obtain ⟨A2, c2, rfl, hc2, hC2⟩ := Kd.R_reads hR2
  have hcn : n ≤ c2 := by have := R.out.2.2.1; omega
  have hCr : Kd.C (Kd.int .i64) w2 A2 n bs := by
    have h := Kd.C_take hC2 (m := n) (by have := R.out.2.2.1; omega)
    rw [R.out.2.2.2.1, ← hn.out] at h
    exact h
  have q0 : (0 : Int) ≤ (n : Int) := by omega
  have q1 : (n : Int) ≤ (c2 : Int) := by omega
  obtain ⟨Nn, hN⟩ : ∃ Nn, RowKit.Hid (Nn = al.length) := ⟨_, Lib.hid rfl⟩
  rw [← hN.out] at hc2 hC2 ⊢
  have hNn : Nn = n + 6 := by rw [hN.out]; exact R.out.2.2.1
  have F := Lib.hid (And.intro hb2 (And.intro hC2 (And.intro hCr hNn)))
  clear hb1 hb2 hg1 hg2 hat1 hat2 hR1 hR2 hc2 hC2 hCr hNn
  go_upto_region 4 with (first
    | (go_at_call 27; refine (hprog w2 A2 c2 F.out.2.2.1 hcn).mono ?_; rintro e w3 ⟨v3, rfl, hR3, hb3⟩; have hR3 := Lib.hid hR3))
  have b3 : Below w.heap.size w w3 := F.out.1.trans (hb3.mono F.out.1.size)
  go_upto_region 6 with (first
    | (go_at_call 28; refine (href w3 (Kd.C_below R.out.1 b3)).mono ?_; rintro e w4 ⟨v4, rfl, hR4, hb4⟩; have hR4 := Lib.hid hR4))
  have b4 : Below w.heap.size w w4 := b3.trans (hb4.mono b3.size)
  have b24 : Below w2.heap.size w2 w4 := hb3.trans (hb4.mono hb3.size)
  obtain ⟨A3, c3, rfl, hc3, hC3⟩ := Kd.R_reads hR3.out
  obtain ⟨A4, c4, rfl, hc4, hC4⟩ := Kd.R_reads hR4.out
  have G := Lib.hid (And.intro b4 (And.intro b24 (And.intro (Kd.C_below hC3 hb4) (And.intro hC4 (And.intro hc3 hc4)))))
  clear b3 b4 b24 hb3 hb4 hR3 hR4 hC3 hC4 hc3 hc4
  obtain ⟨gl, hgl⟩ : ∃ gl, RowKit.Hid (gl = got.length) := ⟨_, Lib.hid rfl⟩
  obtain ⟨wl, hwl⟩ : ∃ wl, RowKit.Hid (wl = want.length) := ⟨_, Lib.hid rfl⟩
  rw [← hgl.out, ← hwl.out] at G
  rw [← hgl.out, ← hwl.out]
  go_loopw [11] (fun v wr => ∃ i : Nat, i ≤ 6 ∧ v = .int .i64 i ∧ Drawn0 w4 wr) (fun v _ => 6 - (intOf v).toNat)
  case atStart => exact ⟨0, by omega, rfl, Drawn0.refl _⟩
  case round =>
    obtain ⟨i, hi, rfl, ⟨nd, rfl⟩⟩ := hrel
    by_cases hlt : i < 6
    · have u6 : (i : Int) < 6 := by omega
      have l6 : (0 : Int) ≤ (n : Int) + (i : Int) := by omega
      have hNn := F.out.2.2.2
      have hnb := R.out.2.1
      have uN : (n : Int) + (i : Int) < (Nn : Int) := by omega
      have kw : IntKind.i64.wrap ((n : Int) + (i : Int)) = (n : Int) + (i : Int) := IntWalk.i64_in _ (by omega)
      have kw2 : wrap64 ((n : Int) + (i : Int)) = (n : Int) + (i : Int) := IntWalk.wrap64_in _ (by omega)
      have km : IntKind.i64.wrap (-91 - (i : Int)) = -91 - (i : Int) := IntWalk.i64_in _ (by omega)
      have km2 : wrap64 (-91 - (i : Int)) = -91 - (i : Int) := IntWalk.wrap64_in _ (by omega)
      have hrd : ReadsInt w4 .i64 A2 Nn al := readsInt_of.2 (Kd.reads_of_C (d := (0 : Int)) (Kd.C_below F.out.2.1 G.out.2.1))
      obtain ⟨ad, eA, hcc⟩ := hrd.2.2 (by omega)
      have x0 := hcc (n + i) (by omega)
      rw [R.out.2.2.2.2 i hlt] at x0
      cases eA
      clear hcc hrd hNn hnb
      go_wp2
      exact ⟨⟨i + 1, by omega, by go_num, ⟨nd, rfl⟩⟩, by simp [intOf]; omega⟩
    · obtain rfl : i = 6 := by omega
      rw [show ((6 : Nat) : Int) = 6 from rfl]
      obtain ⟨w5, hw5⟩ : ∃ w5, RowKit.Hid (w5 = w4.drewN nd) := ⟨_, Lib.hid rfl⟩
      rw [← hw5.out]
      have b45 : Below w4.heap.size w4 w5 := by rw [hw5.out]; exact pw_below_drewN (Below.refl _ _) nd
      obtain ⟨ol, hol⟩ : ∃ ol, RowKit.Hid (ol = (refN (inL [0]) 16).map (img 1)) := ⟨_, Lib.hid rfl⟩
      have hone : RowKit.Hid (span_Ranges.f 8 1 [0] = some (ol, 0)) := Lib.hid (by rw [hol.out]; exact one_law)
      have hol1 : ol.length = 1 := by rw [hol.out]; exact one_len
      have C3 := Lib.hid (Kd.C_below G.out.2.2.1 b45)
      have C4 := Lib.hid (Kd.C_below G.out.2.2.2.1 b45)
      have C2 := Lib.hid (Kd.C_below F.out.2.2.1 (G.out.2.1.trans (b45.mono G.out.2.1.size)))
      have CA := Lib.hid (Kd.C_below R.out.1 (G.out.1.trans (b45.mono G.out.1.size)))
      have b5 := Lib.hid (G.out.1.trans (b45.mono G.out.1.size))
      have hsame : ∀ W, Kd.C k28 W A3 got.length got → Kd.C k31 W A4 want.length want → Calls Tryd.prog 21 #[.slice A3 got.length c3, .slice A4 want.length c4] W fun e w' => e = .returned (.bool true) ∧ Drawn0 W w' := fun W h1 h2 => hawserlaw06_same.calls ks A3 c3 got A4 c4 want true W h1 (by rw [← hgl.out]; exact G.out.2.2.2.2.1) h2 (by rw [← hwl.out]; exact G.out.2.2.2.2.2) S.out
      rw [← hgl.out, ← hwl.out] at hsame
      clear b45
      go_upto_region 11 with (first
        | (go_at_call 27; refine (span_Ranges.calls 8 1 (some ⟨w5.heap.size, 0, none⟩) 1 [0] ol 0 _ (row_C w5 [0] (by decide) _ rfl) (by decide) hone.out).mono ?_; rintro e w6 ⟨v6, rfl, hR6, hb6⟩; obtain ⟨A6, c6, rfl, hc6, -⟩ := Kd.R_reads hR6; rw [hol1]; have b56 : Below w5.heap.size w5 w6 := ((Below.refl _ _).alloc (Nat.le_refl _) _).trans (hb6.mono (by rw [World.size_alloc]; omega))))
      have D3 := Lib.hid (Kd.C_below C3.out b56)
      have D4 := Lib.hid (Kd.C_below C4.out b56)
      have D2 := Lib.hid (Kd.C_below C2.out b56)
      have DA := Lib.hid (Kd.C_below CA.out b56)
      have b6 := Lib.hid (b5.out.trans (b56.mono b5.out.size))
      clear hR6 hb6 b56 C3 C4 C2 CA b5 hol1 hc6
      go_wp2_with (first
        | (go_at_call 21; refine (hsame _ D3.out D4.out).mono ?_; rintro e w7 ⟨rfl, ⟨n7, rfl⟩⟩)
        | (go_at_call 12; refine (hawserlaw06_num.calls er er _ rfl).mono ?_; rintro e w8 ⟨rfl, ⟨n8, rfl⟩⟩)
        | (go_at_call 29; refine (hints _ A2 c2 (Kd.C_drewN D2.out _) hcn (Kd.C_drewN DA.out _)).mono ?_; rintro e w9 ⟨rfl, ⟨n9, rfl⟩⟩)
        | (go_at_call 12; refine (hawserlaw06_num.calls 0 0 _ rfl).mono ?_; rintro e w10 ⟨rfl, ⟨n10, rfl⟩⟩))
      go_ret
      exact ⟨rfl, by repeat (first | exact b6.out | apply pw_below_drewN)⟩
end Go.Proofs.YtijlanhhelichaaDoor.RangesWalk

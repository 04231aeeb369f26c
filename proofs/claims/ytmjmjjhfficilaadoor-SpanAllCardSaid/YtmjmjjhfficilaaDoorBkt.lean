/- What is proved: contracts of functions that the law uses, each under the conditions that its theorem states. -/
import Derived.Test.YtmjmjjhfficilaaDoorLow
import Derived.Deep.RegionWith
import Derived.RangeFuncNested
import Derived.RangeFuncBound
import Derived.RangeFuncCalls
import Derived.RangeFuncLeaves
import Derived.RangeFuncBox
import Derived.Shelf.Abstract
import Derived.Shelf.RegionOpen
import Derived.OwnWalkIn
import Derived.TacticsInMore
import Derived.LoopNIn
import Derived.LoopIn
import Derived.Maps.AppendAt
namespace Go.Proofs.YtmjmjjhfficilaaDoor.PSpanTouches
open Go.RowKit Go.Proofs.YtmjmjjhfficilaaDoorW.PrintWords Go.Proofs.YtmjmjjhfficilaaDoorW.PrintLast Go.Proofs.YtmjmjjhfficilaaDoorW.PrintMore
set_option linter.unusedVariables false
set_option linter.unusedSimpArgs false
/-! #### All goes over the buckets -/
attribute [local go_sem] Oper.semAt_some
def bk (d : Int) (b : Nat) : S27 := ⟨mkB (lowL d b), mkB (hiL d b)⟩
def bkL (d : Int) (k : Nat) : List (Nat × S27) := (List.range k).map fun b => (b, bk d b)
theorem bkL_succ (d : Int) (k : Nat) : bkL d (k + 1) = bkL d k ++ [(k, bk d k)] := by simp [bkL, List.range_succ]
theorem bkL_length (d : Int) (k : Nat) : (bkL d k).length = k := by simp [bkL]
def encB (x : Nat × S27) : Array Value := #[.int .i64 (x.1 : Int), .agg #[.string x.2.f0, .string x.2.f1]]
/-- What a round that goes on keeps: what lay, and the depth's box. -/
def KpB (n₀ Bd : Nat) (A B : World) : Prop := Below n₀ A B ∧ ∀ v, A.cell? ⟨Bd, 0, none⟩ = some v → B.cell? ⟨Bd, 0, none⟩ = some v
theorem KpB.trans {n₀ Bd : Nat} {A B C : World} (h : KpB n₀ Bd A B) (k : KpB n₀ Bd B C) : KpB n₀ Bd A C := ⟨h.1.trans k.1, fun v hv => k.2 v (h.2 v hv)⟩
theorem KpB.below {n₀ Bd : Nat} {A B : World} (h : Below A.heap.size A B) (hn : n₀ ≤ A.heap.size) : KpB n₀ Bd A B :=
  ⟨h.mono hn, fun v hv => (h.cell (p := ⟨Bd, 0, none⟩) (World.block_lt_of_cell? A _ hv)).trans hv⟩
theorem grown_of_below {A B : World} (h : Below A.heap.size A B) : A.grownBy B none := ⟨h.os, h.tape, h.output, h.size, fun k hk _ => h.block k hk⟩
theorem KpB.put {n₀ Bd : Nat} {w : World} (hn : n₀ ≤ w.heap.size) (W : World) (l : Nat) (o o' : Obj) (hl : w.heap.size ≤ l) (h : W.heap[l]? = some o) (hc : o.isCells = false) (hw : o.isWalk = false) : KpB n₀ Bd W (W.putObj l o') := by
  refine ⟨belowK_b hn W l o o' hl h hc hw, fun v hv => ?_⟩
  have hg := grownBy_putObj' W l o'
  have hlt := World.block_lt_of_cell? W _ hv
  by_cases e : Bd = l
  · subst e
    unfold World.cell? at hv
    simp only [h] at hv
    cases o <;> simp_all [Obj.isCells]
  · unfold World.cell? at hv ⊢
    rw [hg.block Bd hlt (fun h => e (by injection h))]
    exact hv
set_option maxHeartbeats 1000000 in
theorem all_in (n : Nat) (d : Int) (w : World) : CallsIn Fence.wide n Tryd.prog 9 #[.int .i64 d] w fun e w' => e = .returned (.func (.func 34) #[] #[.pointer (some ⟨w.heap.size, 0, none⟩)]) ∧ w' = w.alloc (.cells #[.int .i64 d] 3) := by
  refine callsIn_of_wp Tryd.func9 rfl trivial ?_ rfl
  simp only [Tryd.ntmps9, List.size_toArray, List.length_cons, List.length_nil, Nat.reduceAdd, Nat.reduceSub, Array.replicate_succ, Array.replicate_zero, List.push_toArray, List.append_toArray, List.nil_append, List.cons_append]
  gi_wp2
  go_ret
  exact ⟨rfl, rfl⟩
def AllPost (d : Int) (cn : Nat) (J Jx : List (Nat × S27) → World → Prop) (e : Ending) (W' : World) : Prop := (∃ v, e = .returned v) ∧
      ((∃ ys, ys = bkL d cn ∧ J ys W') ∨ (∃ pre, (∃ k, k ≤ cn ∧ pre = bkL d k) ∧ Jx pre W'))
set_option maxRecDepth 100000 in
set_option maxHeartbeats 4000000 in
theorem all1_in (n : Nat) (hn : 1 ≤ n) (l Bd n₀ : Nat) (d : Int) (hd : d = 1 ∨ d = 2 ∨ d = 3) (J Jx : List (Nat × S27) → World → Prop) (B0 : Nat) (hJ : AbidesFrom B0 J)
    (hY : ∀ pre x W, J pre W → pre.length < cntN d → YieldAt Fence.wide (n - 1) Tryd.prog l (encB x) W fun e W' =>
      (e = .returned (.bool true) ∧ J (pre ++ [x]) W' ∧ KpB n₀ Bd W W') ∨ (e = .returned (.bool false) ∧ Jx (pre ++ [x]) W'))
    (W : World) (hBd : W.cell? ⟨Bd, 0, none⟩ = some (.int .i64 d)) (h0 : J [] W) :
    CallsIn Fence.wide n Tryd.prog 34 #[.func (.yield l) #[] #[], .pointer (some ⟨Bd, 0, none⟩)] W (AllPost d (cntN d) J Jx) := by
  obtain ⟨hcnt, -, hc0, hc1, -⟩ := count_in d hd
  obtain ⟨cn, hcn⟩ : ∃ cn, RowKit.Hid (cn = cntN d) := ⟨_, Lib.hid rfl⟩
  rw [← hcn.out] at hcnt hc0 hc1 hY ⊢
  have hcount := fun W' => span_count.calls 6 d (cn : Int) W' hcnt
  have hof := fun (b : Nat) (hb : b < cn) W' => span_Of.calls 6 d (b : Int) (bk d b).f0 (bk d b).f1 0 W' (of_at d b hd (by rw [← hcn.out]; exact hb) 0)
  have HY := Lib.hid hY
  have HJ := Lib.hid hJ
  have HO := Lib.hid hof
  have J0 := Lib.hid h0
  have HC := Lib.hid hcount
  have HCN := Lib.hid (And.intro hc0 hc1)
  clear hcnt hY hJ hof h0 hcount hd hc0
  refine callsIn_of_wp Tryd.func34 rfl trivial ?_ rfl
  simp only [Tryd.ntmps34, List.size_toArray, List.length_cons, List.length_nil, Nat.reduceAdd, Nat.reduceSub, Array.replicate_succ, Array.replicate_zero, List.push_toArray, List.append_toArray, List.nil_append, List.cons_append]
  gi_wp2_with (first
    | (refine ⟨trivial, ?_⟩; gi_at_call 35; refine (callsIn_wide.2 (HC.out _)).mono ?_; rintro e w' ⟨rfl, ⟨nd, rfl⟩⟩))
  gi_loopw [8] (fun i wr => ∃ k : Nat, k ≤ cn ∧ i = .int .i64 k ∧ J (bkL d k) wr ∧ wr.cell? ⟨Bd, 0, none⟩ = some (.int .i64 d)) (fun i _ => cn - (intOf i).toNat)
  case atStart =>
    refine ⟨0, by omega, rfl, ?_, ?_⟩
    · exact HJ.out _ _ _ none J0.out (grown_of_below (pw_below_drewN (Below.refl _ _) nd)) (fun r e => by cases e)
    · first | exact hBd | (simpa using hBd)
  case round =>
    obtain ⟨k, hk, rfl, hJs, hcx⟩ := hrel
    by_cases hlt : k < cn
    · have l16 : (0 : Int) ≤ (k : Int) := by omega
      have u16 : (k : Int) < (cn : Int) := by omega
      have JS := Lib.hid hJs
      have hof := HO.out k hlt
      obtain ⟨q, hq⟩ : ∃ q, RowKit.Hid (q = bk d k) := ⟨_, Lib.hid rfl⟩
      rw [← hq.out] at hof
      have CX := Lib.hid hcx
      clear hJs
      gi_upto_region 4 with (first
        | (refine ⟨trivial, ?_⟩; gi_at_call 11; refine (callsIn_wide.2 (hof _)).mono ?_; rintro e w3 ⟨rfl, hb3⟩))
      obtain ⟨w4, hw4⟩ : ∃ w4, w4 = w3.alloc (.cells #[.string q.f0, .string q.f1] 27) := ⟨_, rfl⟩
      rw [← hw4]
      have b4 : Below wr.heap.size wr w4 := by rw [hw4]; exact hb3.alloc hb3.size _
      have g4 : w4.heap[w3.heap.size]? = some (.cells #[.string q.f0, .string q.f1] 27 (0, 0)) := by rw [hw4]; exact heap_alloc_new w3 _
      have z0 : w4.cell? ⟨w3.heap.size, 0, none⟩ = some (.string q.f0) := cell_of_row w4 _ 0 _ _ _ g4
      have z1 : w4.cell? ⟨w3.heap.size, 1, none⟩ = some (.string q.f1) := cell_of_row w4 _ 1 _ _ _ g4
      have J4 : J (bkL d k) w4 := HJ.out _ _ _ none JS.out (grown_of_below b4) (fun r e => by cases e)
      have C4 := Lib.hid ((b4.cell (p := ⟨Bd, 0, none⟩) (World.block_lt_of_cell? wr _ CX.out)).trans CX.out)
      obtain ⟨fn, tmps, assign, body, hy, hR⟩ := HY.out _ (k, q) w4 J4 (by rw [bkL_length]; exact hlt)
      dsimp only [encB] at hy
      have hR2 := hR.mono (R' := fun e W' => (e = .returned (.bool true) ∧ RowKit.Hid (J (bkL d k ++ [(k, q)]) W' ∧ KpB n₀ Bd w4 W')) ∨ (e = .returned (.bool false) ∧ RowKit.Hid (Jx (bkL d k ++ [(k, q)]) W'))) (by
        rintro e W' (⟨h1, h2, h3⟩ | ⟨h1, h2⟩)
        · exact .inl ⟨h1, Lib.hid ⟨h2, h3⟩⟩
        · exact .inr ⟨h1, Lib.hid h2⟩)
      clear hcx hw4 hb3 b4 g4 J4 hR hof
      gi_wp2
      refine hR2.mono ?_
      rintro e w5 (⟨rfl, h5⟩ | ⟨rfl, h5⟩)
      · gi_wp2
        go_roundw
        case rel =>
          refine ⟨k + 1, by omega, by first | rfl | go_num, ?_, h5.out.2.2 _ C4.out⟩
          rw [bkL_succ, ← hq.out]
          exact h5.out.1
        case measure => simp [intOf]; omega
      · gi_wp2
        refine bodyPost_ret (results_none rfl _ _ _) rfl ?_
        refine ⟨⟨_, rfl⟩, .inr ⟨_, ⟨k + 1, by omega, ?_⟩, h5.out⟩⟩
        rw [bkL_succ, ← hq.out]
    · obtain rfl : k = cn := by omega
      have hlt' : ¬ ((k : Int) < (k : Int)) := by omega
      have JS := Lib.hid hJs
      clear hJs
      gi_wp2
      go_end0
      exact ⟨⟨_, rfl⟩, .inl ⟨_, rfl, JS.out⟩⟩
theorem all_stops (n : Nat) (hn : 1 ≤ n) (Bd n₀ : Nat) (d : Int) (hd : d = 1 ∨ d = 2 ∨ d = 3) (w : World) (hB : Bd < w.heap.size) (hc : w.cell? ⟨Bd, 0, none⟩ = some (.int .i64 d)) :
    SeqStopsK Fence.wide n Tryd.prog 34 #[.pointer (some ⟨Bd, 0, none⟩)] encB (KpB n₀ Bd) (fun ys => ys = bkL d (cntN d)) (fun pre => ∃ k, k ≤ cntN d ∧ pre = bkL d k) (cntN d) w := fun l J Jx W hW hJ _ hY h0 => by
  have h := all1_in n hn l Bd n₀ d hd J Jx W.heap.size hJ hY W ((hW.cell (p := ⟨Bd, 0, none⟩) hB).trans hc) h0
  exact h
/-! #### Buckets -/
theorem cells_own {β : Type} (B : Nat) (o : Obj) (ho : o.isCells = true) : Go.Own (fun (_ : β) (W : World) => W.heap[B]? = some o) := by
  intro s X Y row hs hg hr
  have hlt : B < X.heap.size := (Array.getElem?_eq_some_iff.1 hs).1
  refine (hg.block B hlt (fun e => ?_)).trans hs
  obtain ⟨o', ho', hc⟩ := hr B e.symm
  rw [hs] at ho'
  injection ho' with ho'
  rw [← ho', ho] at hc
  cases hc
theorem appended2 {W w1 : World} {n₀ nb B Bd : Nat} {t e : TypeId} {size : Nat} {v v' : Value} {k m : Nat} {xs ys : List Value} {tmp : Obj}
    (hv : Boxed W B t v) (hte : t ≠ e) (hrow : W.ownsRow nb e size v k xs) (hn₀ : n₀ ≤ W.heap.size) (hB : n₀ ≤ B) (hnb : n₀ ≤ nb) (hBd : Bd < nb) (hne : Bd ≠ B)
    (hown' : w1.ownsRow nb e size v' m ys) (hgrow : (W.alloc tmp).grownBy w1 v.ownBlock) :
    Boxed w1 B t v ∧ Boxed (w1.setCell ⟨B, 0, none⟩ v') B t v' ∧ (w1.setCell ⟨B, 0, none⟩ v').ownsRow nb e size v' m ys ∧ KeepsOthers W (w1.setCell ⟨B, 0, none⟩ v') ∧ KpB n₀ Bd W (w1.setCell ⟨B, 0, none⟩ v') ∧ W.heap.size ≤ w1.heap.size ∧ ∀ b, b < nb → b < W.heap.size → b ≠ B → (w1.setCell ⟨B, 0, none⟩ v').heap[b]? = W.heap[b]? := by
  have hv1 : Boxed w1 B t v := (hv.alloc tmp).kept hgrow (hv.not_row hte hrow)
  have hrb : ∀ j, v.ownBlock = some j → nb ≤ j := by
    intro j ej
    rcases hrow.2 with ⟨rfl, _⟩ | ⟨g, cap, cur, rfl, hb, _, _⟩
    · simp [Value.ownBlock] at ej
    · obtain rfl : g = j := by simpa [Value.ownBlock] using ej
      exact hb
  have hsz : W.heap.size ≤ w1.heap.size := Nat.le_trans (by rw [World.size_alloc]; omega) hgrow.size
  have hblk : ∀ b, b < nb → b < W.heap.size → b ≠ B → (w1.setCell ⟨B, 0, none⟩ v').heap[b]? = W.heap[b]? := by
    intro b h1 h2 h3
    have e1 := (grownBy_setCell' w1 B v').block b (by omega) (fun e => h3 (by injection e))
    have e2 := hgrow.block b (by rw [World.size_alloc]; omega) (fun e => by have := hrb b e.symm; omega)
    have e3 := (World.grownBy_alloc W tmp none).block b h2 (by simp)
    exact e1.trans (e2.trans e3)
  refine ⟨hv1, hv1.set v', hown'.kept (grownBy_setCell' w1 B v') (.inr (hv1.not_row hte hown').symm), ?_, ⟨?_, fun u hu => ?_⟩, hsz, hblk⟩
  · refine ((KeepsOthers.alloc W tmp).trans (KeepsOthers.of_grownBy hgrow fun j o ej hj => ?_)).trans (KeepsOthers.setCell _ _ _)
    rcases (hrow.alloc tmp).2 with ⟨rfl, _⟩ | ⟨g, cap, cur, rfl, _, hgb, _⟩
    · simp [Value.ownBlock] at ej
    · obtain rfl : g = j := by simpa [Value.ownBlock] using ej
      rw [hgb] at hj; cases hj; rfl
  · exact (((Below.refl n₀ W).alloc hn₀ tmp).grown hgrow (by rw [World.size_alloc]; omega) fun j ej => Nat.le_trans hnb (hrb j ej)).setCell (p := ⟨B, 0, none⟩) hB v'
  · have hlt := World.block_lt_of_cell? W _ hu
    unfold World.cell? at hu ⊢
    rw [hblk Bd hBd hlt hne]
    exact hu
theorem own_mono {w : World} {base base' : Nat} {e : TypeId} {size : Nat} {v : Value} {n : Nat} {xs : List Value} (h : w.ownsRow base e size v n xs) (hb : base' ≤ base) : w.ownsRow base' e size v n xs :=
  ⟨h.1, h.2.imp id fun ⟨g, c, cur, hv, hg, hr⟩ => ⟨g, c, cur, hv, Nat.le_trans hb hg, hr⟩⟩
def wantB (M : List S27) (x : Nat × S27) : Bool := decide (0 < M.length) && meetsB M x.2
def outB (M : List S27) (pre : List (Nat × S27)) : List Int := (pre.filter (wantB M)).map fun x => (x.1 : Int)
theorem outB_snoc (M : List S27) (pre : List (Nat × S27)) (x : Nat × S27) : outB M (pre ++ [x]) = outB M pre ++ (if wantB M x = true then [(x.1 : Int)] else []) := by
  unfold outB
  rw [List.filter_append, List.map_append]
  cases h : wantB M x <;> simp [List.filter_cons, h]
theorem outB_len (M : List S27) (pre : List (Nat × S27)) : (outB M pre).length ≤ pre.length := by
  unfold outB
  rw [List.length_map]
  exact List.length_filter_le _ _
set_option maxRecDepth 100000 in
set_option maxHeartbeats 8000000 in
theorem buckets_yes (w : World) (A : Option Addr) (c : Nat) (d : Int) (l : List S27) (hd : d = 1 ∨ d = 2 ∨ d = 3) (hr : Kd.C k27 w A l.length l) (hc : l.length ≤ c) (hl : l.length ≤ 67108864) :
    Calls Tryd.prog 13 #[.int .i64 d, .slice A l.length c] w fun e w' => ∃ v, e = .returned (.tuple #[v, .int .i64 0]) ∧ Kd.R (Kd.int .i64) 3 w' w.heap.size (fun _ => True) v (outB (mergeF l) (bkL d (cntN d))) ∧ Below w.heap.size w w' := by
  obtain ⟨hcnt, -, hc0, hc1, -⟩ := count_in d hd
  have hcount := fun W' => span_count.calls 6 d (cntN d : Int) W' hcnt
  have hne : (((cntN d : Nat) : Int) == 0) = false := beq_eq_false_iff_ne.2 (by omega)
  have hmer := fun W' (hb : Below w.heap.size w W') => merged_any W' A c l (Kd.C_below hr hb) hc (by omega)
  obtain ⟨M, hM⟩ : ∃ M, RowKit.Hid (M = mergeF l) := ⟨_, Lib.hid rfl⟩
  have lM : RowKit.Hid (M.length ≤ 67108864) := Lib.hid (by rw [hM.out]; exact Nat.le_trans (mergeF_len l) hl)
  have nM : RowKit.Hid (Texts.NF (M.map pR)) := Lib.hid (by rw [hM.out]; exact mergeF_nf l)
  have hmer2 : ∀ W', Below w.heap.size w W' → Calls Tryd.prog 38 #[.slice A l.length c] W' fun e w' => ∃ v0, e = .returned v0 ∧ Kd.R k27 27 w' W'.heap.size (fun _ => True) v0 M ∧ Below W'.heap.size W' w' := by
    intro W' hb; rw [hM.out]; exact hmer W' hb
  rw [← hM.out]
  have HM := Lib.hid hmer2
  have HC := Lib.hid hcount
  have HD := Lib.hid hd
  have CN := Lib.hid (And.intro hc0 hc1)
  obtain ⟨cn, hcn⟩ : ∃ cn, RowKit.Hid (cn = cntN d) := ⟨_, Lib.hid rfl⟩
  rw [← hcn.out] at hne HC ⊢
  obtain ⟨ln, hln⟩ : ∃ ln, RowKit.Hid (ln = l.length) := ⟨_, Lib.hid rfl⟩
  rw [← hln.out] at HM ⊢
  clear hcnt hcount hmer hmer2 hd hc0 hc1 hr hc hl
  refine (callsIn_wide (n := 10)).1 (callsIn_of_wp_marks Tryd.func13 rfl trivial ?_ rfl)
  simp only [Tryd.ntmps13, List.size_toArray, List.length_cons, List.length_nil, Nat.reduceAdd, Nat.reduceSub, Array.replicate_succ, Array.replicate_zero, List.push_toArray, List.append_toArray, List.nil_append, List.cons_append]
  gi_wp2_with (first
    | (refine ⟨trivial, ?_⟩; gi_at_call 35; refine (callsIn_wide.2 (HC.out _)).mono ?_; rintro e w' ⟨rfl, ⟨nd, rfl⟩⟩)
    | (refine ⟨trivial, ?_⟩; gi_at_call 38; refine (callsIn_wide.2 (HM.out _ (pw_below_drewN (Below.refl _ _) nd))).mono ?_; rintro e w3 ⟨v3, rfl, hR3, hb3⟩; obtain ⟨A3, c3, rfl, hc3, hC3⟩ := Kd.R_reads hR3; have F3 := Lib.hid (And.intro hC3 (And.intro hc3 hb3)); clear hR3 hb3 hc3 hC3)
    | (refine ⟨trivial, ?_⟩; gi_at_call 9; refine (all_in _ _ _).mono ?_; rintro e w' ⟨rfl, rfl⟩))
  have b3 : RowKit.Hid (Below w.heap.size w w3) := Lib.hid ((pw_below_drewN (Below.refl _ _) nd).trans F3.out.2.2)
  obtain ⟨n3, hn3⟩ : ∃ n3, RowKit.Hid (n3 = w3.heap.size) := ⟨_, Lib.hid rfl⟩
  have bR := ((Boxed.new w3 35 (.slice A3 M.length c3)).alloc (.cells #[.slice none 0 0] 37)).alloc (.cells #[.int .i64 d] 3)
  have bO := (Boxed.new (w3.alloc (.cells #[.slice A3 M.length c3] 35)) 37 (.slice none 0 0)).alloc (.cells #[.int .i64 d] 3)
  have bD := Boxed.new ((w3.alloc (.cells #[.slice A3 M.length c3] 35)).alloc (.cells #[.slice none 0 0] 37)) 3 (.int .i64 d)
  simp only [World.size_alloc] at bR bO bD
  have hB0 : Below w3.heap.size w3 (((w3.alloc (.cells #[.slice A3 M.length c3] 35)).alloc (.cells #[.slice none 0 0] 37)).alloc (.cells #[.int .i64 d] 3)) := (((Below.refl _ w3).alloc (Nat.le_refl _) _).alloc (by simp) _).alloc (by simp; omega) _
  have hsz : (((w3.alloc (.cells #[.slice A3 M.length c3] 35)).alloc (.cells #[.slice none 0 0] 37)).alloc (.cells #[.int .i64 d] 3)).heap.size = w3.heap.size + 3 := by simp
  obtain ⟨W0, hW0⟩ : ∃ W0, ((w3.alloc (.cells #[.slice A3 M.length c3] 35)).alloc (.cells #[.slice none 0 0] 37)).alloc (.cells #[.int .i64 d] 3) = W0 := ⟨_, rfl⟩
  rw [hW0] at bR bO bD hB0 hsz ⊢
  clear hW0
  rw [← hn3.out] at bR bO bD hB0 hsz ⊢
  refine wpIn_rangeFunc_ownH (F := Fence.wide) rfl (by omega) (gf := 34) (lb := #[.pointer (some ⟨n3 + 1 + 1, 0, none⟩)]) rfl trivial (enters_of Tryd.func34 (by kernel_rfl) rfl)
    (all_stops 9 (by omega) (n3 + 1 + 1) n3 d HD.out W0 (by omega) bD.cell) (fun h k => KpB.trans h k) (fun W l o o' hl ho hc hw => KpB.put (w := W0) (by omega) W l o o' hl ho hc hw) (Below.refl _ _) (fun _ => rfl)
    (fun pre W => ((∃ v, Boxed W (n3 + 1) 37 v ∧ W.ownsRow (n3 + 3) 3 1 v (outB M pre).length ((outB M pre).map (Value.int .i64)) ∧ True) ∧ Boxed W n3 35 (.slice A3 M.length c3)) ∧ Below n3 w3 W)
    (fun _ _ _ => False)
    (OwnFrom.and (OwnFrom.and (Own.from (holdsRow_own (n3 + 3) (n3 + 1) 37 3 1 (fun pre => (outB M pre).length) (fun pre => (outB M pre).map (Value.int .i64)) (fun _ _ => True)) _) (Own.from (boxed_own _ _ _) _)) (ownFrom_below (by rw [hn3.out]; exact Nat.le_refl _) (by omega)))
    (fun _ _ _ _ _ hs _ _ => hs)
    ⟨⟨⟨_, bO, World.ownsRow_nil .., trivial⟩, bR⟩, hB0⟩
    (fun x a' W => ∃ Bx, n3 + 1 < Bx ∧ W.heap[Bx]? = some (.cells #[.string x.2.f0, .string x.2.f1] 27 (0, 0)) ∧ a' = { tmps := #[.int .i64 d, .slice A ln c, undef, undef, .slice none 0 0, .int .i64 0, .pointer (some ⟨n3, 0, none⟩), .pointer (some ⟨n3 + 1, 0, none⟩), .int .i64 (x.1 : Int), .pointer (some ⟨Bx, 0, none⟩), .int .i64 d, .int .i64 (cn : Int), .bool false, .slice A ln c, .slice A3 M.length c3, .int .i64 d, .func (.func 34) #[] #[.pointer (some ⟨n3 + 1 + 1, 0, none⟩)], .int .i64 (x.1 : Int), .agg #[.string x.2.f0, .string x.2.f1], undef, undef, undef, undef, undef, undef, undef, undef, undef, undef, undef, undef, undef], defers := [] })
    (fun x a' _ X Y row hs hg hr => by obtain ⟨Bx, h1, h2, h3⟩ := hs; exact ⟨Bx, h1, cells_own Bx _ rfl () X Y row h2 hg (fun r e => (hr r e).2), h3⟩)
    ?assign ?body ?done ?stop
  case assign =>
    rintro l pre x W K ⟨⟨⟨v, bO1, hO1, -⟩, bR1⟩, hB1⟩ hK
    simp only [encB]
    gi_wp2
    refine hK _ _ ((KeepsOthers.alloc _ _).from _) (KpB.below ((Below.refl _ W).alloc (Nat.le_refl _) _) (by rw [hn3.out]; exact hB1.size)) ⟨⟨⟨v, bO1.alloc _, hO1.alloc _, trivial⟩, bR1.alloc _⟩, hB1.alloc (by rw [hn3.out]; exact hB1.size) _⟩ ⟨W.heap.size, bO1.lt, heap_alloc_new W _, rfl⟩
  case body =>
    rintro l pre x a' W hlW ⟨rr, hrr⟩ ⟨⟨⟨v, bO1, hO1, -⟩, bR1⟩, hB1⟩ ⟨Bx, hBx, hX, rfl⟩ hlt
    have cR := bR1.cell
    have cO := bO1.cell
    have fO := bO1.frozen
    have hsW := hB1.size
    have hCM : RowKit.Hid (Kd.C k27 W A3 M.length M) := Lib.hid (Kd.C_below F3.out.1 (by rw [← hn3.out]; exact hB1))
    have hmt := fun W' (hb : Below W.heap.size W W') => meets_any W' A3 c3 M x.2 (Kd.C_below hCM.out hb) (by have := lM.out; omega) nM.out
    have hsn := outB_snoc M pre x
    have hol := outB_len M pre
    have hpl : pre.length < 4096 := Nat.lt_of_lt_of_le hlt CN.out.2
    obtain ⟨xb, q⟩ := x
    simp only at hX hmt hsn ⊢
    have z0 : W.cell? ⟨Bx, 0, none⟩ = some (.string q.f0) := cell_of_row W _ 0 _ _ _ hX
    have z1 : W.cell? ⟨Bx, 1, none⟩ = some (.string q.f1) := cell_of_row W _ 1 _ _ _ hX
    obtain ⟨wb, hwb⟩ : ∃ wb, RowKit.Hid (wb = wantB M (xb, q)) := ⟨_, Lib.hid rfl⟩
    rw [← hwb.out] at hsn
    obtain ⟨mb, hmb⟩ : ∃ mb, RowKit.Hid (mb = meetsB M q) := ⟨_, Lib.hid rfl⟩
    rw [← hmb.out] at hmt
    have hwb2 : RowKit.Hid (wb = (decide (0 < M.length) && mb)) := Lib.hid (by rw [hwb.out, hmb.out]; rfl)
    have S := Lib.hid (And.intro bO1 (And.intro hO1 (And.intro bR1 (And.intro hB1 hsn))))
    have MT := Lib.hid hmt
    have HL := Lib.hid (And.intro hol hpl)
    clear bO1 hO1 bR1 hB1 hsn hmt hlt hX hol hpl
    obtain ⟨i0, hi0, hz0, hz1, hz2⟩ := info_parts info3
    have fin0 : ∀ (ac : Act) (w7 : World), Below W.heap.size W w7 → wb = false → ownPostG W0.heap.size (KpB n3 (n3 + 1 + 1)) (fun pre W => ((∃ v, Boxed W (n3 + 1) 37 v ∧ W.ownsRow (n3 + 3) 3 1 v (outB M pre).length ((outB M pre).map (Value.int .i64)) ∧ True) ∧ Boxed W n3 35 (.slice A3 M.length c3)) ∧ Below n3 w3 W) (fun _ _ _ => False) (pre ++ [(xb, q)]) W .normal ac w7 := by
      intro ac w7 hb7 hwf
      have hsn := S.out.2.2.2.2
      rw [hwf, if_neg (by decide), List.append_nil] at hsn
      have hg := grown_of_below hb7
      refine ⟨KeepsFrom.of_grownBy hg (fun j e => by cases e), KpB.below hb7 (by rw [hn3.out]; exact hsW), ?_⟩
      dsimp only
      rw [hsn]
      exact ⟨⟨⟨v, S.out.1.kept hg (by simp), pw_own_below S.out.2.1 hb7, trivial⟩, S.out.2.2.1.kept hg (by simp)⟩, S.out.2.2.2.1.trans (hb7.mono (by rw [hn3.out]; exact hsW))⟩
    have FIN := Lib.hid fin0
    clear fin0
    by_cases hM0 : 0 < M.length
    · have t0 : decide ((M.length : Int) > 0) = true := decide_eq_true (by omega)
      cases mb with
      | false =>
        gi_wp2_with (first
          | (refine ⟨trivial, ?_⟩; gi_at_call 39; refine (CallsIn.inRound l (callsIn_wide.2 (MT.out _ (Below.refl _ _)))).mono ?_; rintro e w7 ⟨rfl, hb7⟩; have Hb7 := Lib.hid hb7; clear hb7))
        exact FIN.out _ w7 Hb7.out (by rw [hwb2.out]; simp)
      | true =>
        have hsn := S.out.2.2.2.2
        rw [hwb2.out, decide_eq_true hM0, Bool.true_and, if_pos rfl] at hsn
        have SN := Lib.hid hsn
        clear hsn
        gi_upto_region 9 with (first
          | (refine ⟨trivial, ?_⟩; gi_at_call 39; refine (CallsIn.inRound l (callsIn_wide.2 (MT.out _ (Below.refl _ _)))).mono ?_; rintro e w7 ⟨rfl, hb7⟩; have Hb7 := Lib.hid hb7; clear hb7))
        have hg7 := grown_of_below Hb7.out
        have v7 := S.out.1.kept hg7 (by simp)
        have hrow7 := pw_own_below S.out.2.1 Hb7.out
        have cO7 := v7.cell
        have V7 := Lib.hid (And.intro v7 hrow7)
        have hs7 := Hb7.out.size
        have n7 : n3 + 3 ≤ w7.heap.size := by
          have h1 : l < W.heap.size := (Array.getElem?_eq_some_iff.1 hrr).1
          omega
        have LL : RowKit.Hid ((outB M pre).length + 1 ≤ 4097) := Lib.hid (by have h1 := HL.out.1; have h2 := HL.out.2; omega)
        clear hg7 v7 hrow7 cO fO z0 z1 cR
        gi_wp2_with (first
          | (gi_at_builtin; refine wpListIn_append_own _ rfl _ _ 37 rfl (n3 + 3) 3 i0 (.int .i64 0) 1 8 Tryd.underlying37 hi0 hz0 hz1 hz2 rfl (by decide) _ _ _ rfl (V7.out.2.alloc _) ⟨w7.heap.size, 0, none⟩ 1 1 [.int .i64 (xb : Int)] rfl rfl (cell_one_new _ _ _) (by simp [Value.oneCell']) (by have := LL.out; unfold maxLen; omega) (by have := LL.out; omega) (by rw [World.size_alloc]; omega) ?_; intro v' w8 hown' hgrow _; obtain ⟨g', cap', rfl⟩ := ownsRow_succ hown'; have AP := Lib.hid (appended2 (n₀ := n3) (Bd := n3 + 1 + 1) V7.out.1 (by decide) V7.out.2 (by omega) (by omega) (by omega) (by omega) (by omega) hown' hgrow); have hc1 := AP.out.1.cell; have hf1 := AP.out.1.frozen; clear hown' hgrow))
        refine ⟨KeepsFrom.trans (KeepsFrom.of_grownBy (grown_of_below Hb7.out) (fun j e => by cases e)) (AP.out.2.2.2.1.from _), KpB.trans (KpB.below Hb7.out (by rw [hn3.out]; exact hsW)) AP.out.2.2.2.2.1, ?_⟩
        dsimp only
        rw [SN.out, List.length_append, List.map_append]
        refine ⟨⟨⟨_, AP.out.2.1, AP.out.2.2.1, trivial⟩, ?_⟩, (S.out.2.2.2.1.trans (Hb7.out.mono (by rw [hn3.out]; exact hsW))).trans AP.out.2.2.2.2.1.1⟩
        exact (AP.out.2.2.2.2.2.2 n3 (by omega) (by omega) (by omega)).trans (S.out.2.2.1.kept (grown_of_below Hb7.out) (by simp))
    · have t0 : decide ((M.length : Int) > 0) = false := decide_eq_false (by omega)
      gi_wp2_with (first
        | (refine ⟨trivial, ?_⟩))
      exact FIN.out _ W (Below.refl _ _) (by rw [hwb2.out, decide_eq_false hM0]; rfl)
  case done =>
    rintro D ys W hD rfl ⟨⟨⟨v, bO1, hO1, -⟩, bR1⟩, hB1⟩ hK
    have cO := bO1.cell
    have fO := bO1.frozen
    gi_wp2
    refine ⟨by simp, .inl ⟨_, _, rfl, run_takeDeferred hK, ?_⟩⟩
    have hbD : Below n3 W (W.putObj D (.deferred none)) := belowK_b (w := W0) (by omega) W D _ _ hD hK rfl rfl
    have hown := ownsRow_putObj hO1 (.deferred none) hK rfl
    refine ⟨_, results_tmp2 rfl _ _ _, ⟨_, rfl, ?_, ?_⟩⟩
    · have hwn : w.heap.size ≤ n3 := by have := b3.out.size; rw [hn3.out]; exact this
      rw [hcn.out]
      exact Kd.R_of_own (own_mono hown (by omega)) (fun _ _ => trivial)
    · have h3 := b3.out
      rw [hn3.out] at hB1 hbD
      exact h3.trans ((hB1.trans hbD).mono h3.size)
  case stop =>
    rintro D c pre W _ _ h _
    exact h.elim
set_option maxRecDepth 100000 in
theorem buckets_no (w : World) (A : Option Addr) (c : Nat) (d : Int) (n : Nat) (hd : ¬ (d = 1 ∨ d = 2 ∨ d = 3)) :
    Calls Tryd.prog 13 #[.int .i64 d, .slice A n c] w fun e w' => e = .returned (.tuple #[.slice none 0 0, .int .i64 61]) ∧ Below w.heap.size w w' := by
  have hcount := fun W' => span_count.calls 6 d 0 W' (count_out d hd).1
  clear hd
  go_enter Tryd.func13, Tryd.ntmps13
  go_wp2_with (first
    | (go_at_call 35; refine (hcount _).mono ?_; rintro e w' ⟨rfl, ⟨nd, rfl⟩⟩))
  go_ret2
  exact ⟨rfl, by first | exact Below.refl _ _ | exact pw_below_drewN (Below.refl _ _) _⟩
def outsF (d : Int) (l : List S27) : List Int := if d = 1 ∨ d = 2 ∨ d = 3 then outB (mergeF l) (bkL d (cntN d)) else []
def errF (d : Int) : Int := if d = 1 ∨ d = 2 ∨ d = 3 then 0 else 61
theorem buckets_any (w : World) (A : Option Addr) (c : Nat) (d : Int) (l : List S27) (hr : Kd.C k27 w A l.length l) (hc : l.length ≤ c) (hl : l.length ≤ 67108864) :
    Calls Tryd.prog 13 #[.int .i64 d, .slice A l.length c] w fun e w' => ∃ v, e = .returned (.tuple #[v, .int .i64 (errF d)]) ∧ Kd.R (Kd.int .i64) 3 w' w.heap.size (fun _ => True) v (outsF d l) ∧ Below w.heap.size w w' := by
  unfold outsF errF
  by_cases hd : d = 1 ∨ d = 2 ∨ d = 3
  · rw [if_pos hd, if_pos hd]
    exact buckets_yes w A c d l hd hr hc hl
  · rw [if_neg hd, if_neg hd]
    refine (buckets_no w A c d l.length hd).mono ?_
    rintro e w' ⟨rfl, hb⟩
    exact ⟨_, rfl, Kd.R_nil _ _ _ _ _, hb⟩
end Go.Proofs.YtmjmjjhfficilaaDoor.PSpanTouches

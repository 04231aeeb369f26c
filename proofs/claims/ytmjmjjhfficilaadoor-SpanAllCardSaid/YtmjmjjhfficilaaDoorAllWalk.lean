/- What is proved: contracts of functions that the law uses, each under the conditions that its theorem states. -/
import Derived.Test.YtmjmjjhfficilaaDoorBkt
namespace Go.Proofs.YtmjmjjhfficilaaDoor.PSpanTouches
open Go.RowKit Go.Proofs.YtmjmjjhfficilaaDoorW.PrintWords Go.Proofs.YtmjmjjhfficilaaDoorW.PrintLast Go.Proofs.YtmjmjjhfficilaaDoorW.PrintMore
set_option linter.unusedVariables false
set_option linter.unusedSimpArgs false
/-! #### SpanAll: nested ranges over All -/
def inD (d : Int) : Prop := d = 1 ∨ d = 2 ∨ d = 3
instance (d : Int) : Decidable (inD d) := by unfold inD; exact inferInstance
/-- How many buckets: none at a depth that is none. -/
def cntZ (d : Int) : Nat := if inD d then cntN d else 0
theorem cntZ_le (d : Int) : cntZ d ≤ 4096 := by
  unfold cntZ
  by_cases h : inD d
  · rw [if_pos h]; exact (count_in d h).2.2.2.1
  · rw [if_neg h]; omega
theorem cntZ_f (d : Int) : span_count.f 6 d = some (cntZ d : Int) ∧ hawserref06_count.f 6 d = some (cntZ d : Int) := by
  unfold cntZ
  by_cases h : inD d
  · rw [if_pos h]; exact ⟨(count_in d h).1, (count_in d h).2.1⟩
  · rw [if_neg h]; exact count_out d h
set_option maxRecDepth 100000 in
theorem rCount (d : Int) (W : World) : Calls Tryd.prog 8 #[.int .i64 d] W fun e w' => e = .returned (.int .i64 (cntZ d : Int)) ∧ Drawn0 W w' := by
  have hc := fun W => hawserref06_count.calls 6 d (cntZ d : Int) W (cntZ_f d).2
  generalize (cntZ d : Int) = q at hc ⊢
  go_enter Tryd.func8, Tryd.ntmps8
  go_wp2_with (first
    | (go_at_call 33; refine (hc _).mono ?_; rintro e w' ⟨rfl, ⟨nd, rfl⟩⟩))
  go_ret
  exact ⟨rfl, ⟨nd, rfl⟩⟩
set_option maxRecDepth 100000 in
set_option maxHeartbeats 4000000 in
theorem all1_none (n : Nat) (hn : 1 ≤ n) (l Bd : Nat) (d : Int) (hd : ¬ inD d) (J Jx : List (Nat × S27) → World → Prop) (B0 : Nat) (hJ : AbidesFrom B0 J)
    (W : World) (hBd : W.cell? ⟨Bd, 0, none⟩ = some (.int .i64 d)) (h0 : J [] W) :
    CallsIn Fence.wide n Tryd.prog 34 #[.func (.yield l) #[] #[], .pointer (some ⟨Bd, 0, none⟩)] W (AllPost d 0 J Jx) := by
  have hcount := fun W' => span_count.calls 6 d 0 W' (count_out d hd).1
  have HC := Lib.hid hcount
  have HJ := Lib.hid hJ
  have J0 := Lib.hid h0
  clear hcount hJ h0 hd
  refine callsIn_of_wp Tryd.func34 rfl trivial ?_ rfl
  simp only [Tryd.ntmps34, List.size_toArray, List.length_cons, List.length_nil, Nat.reduceAdd, Nat.reduceSub, Array.replicate_succ, Array.replicate_zero, List.push_toArray, List.append_toArray, List.nil_append, List.cons_append]
  gi_wp2_with (first
    | (refine ⟨trivial, ?_⟩; gi_at_call 35; refine (callsIn_wide.2 (HC.out _)).mono ?_; rintro e w' ⟨rfl, ⟨nd, rfl⟩⟩))
  gi_loopw [8] (fun i wr => i = .int .i64 0 ∧ J [] wr) (fun i _ => 0)
  case atStart =>
    exact ⟨rfl, HJ.out _ _ _ none J0.out (grown_of_below (pw_below_drewN (Below.refl _ _) nd)) (fun r e => by cases e)⟩
  case round =>
    obtain ⟨rfl, hJs⟩ := hrel
    have JS := Lib.hid hJs
    clear hJs
    gi_wp2
    go_end0
    exact ⟨⟨_, rfl⟩, .inl ⟨_, rfl, JS.out⟩⟩
theorem all_stopsZ (n : Nat) (hn : 1 ≤ n) (Bd n₀ : Nat) (d : Int) (w : World) (hB : Bd < w.heap.size) (hc : w.cell? ⟨Bd, 0, none⟩ = some (.int .i64 d)) :
    SeqStopsK Fence.wide n Tryd.prog 34 #[.pointer (some ⟨Bd, 0, none⟩)] encB (KpB n₀ Bd) (fun ys => ys = bkL d (cntZ d)) (fun pre => ∃ k, k ≤ cntZ d ∧ pre = bkL d k) (cntZ d) w := by
  by_cases hd : inD d
  · have e : cntZ d = cntN d := by unfold cntZ; rw [if_pos hd]
    rw [e]
    exact all_stops n hn Bd n₀ d hd w hB hc
  · have e : cntZ d = 0 := by unfold cntZ; rw [if_neg hd]
    rw [e]
    exact fun l J Jx W hW hJ _ hY h0 => all1_none n hn l Bd d hd J Jx W.heap.size hJ W ((hW.cell (p := ⟨Bd, 0, none⟩) hB).trans hc) h0
set_option maxRecDepth 100000 in
set_option maxHeartbeats 4000000 in
theorem all1_at (n : Nat) (hn : 1 ≤ n) (l Bd n₀ : Nat) (d : Int) (hd : d = 1 ∨ d = 2 ∨ d = 3) (J Jx : List (Nat × S27) → World → Prop) (B0 : Nat) (hJ : AbidesFrom B0 J)
    (hY : ∀ pre x W, J pre W → pre.length < cntN d → pre = bkL d pre.length → x = (pre.length, bk d pre.length) → YieldAt Fence.wide (n - 1) Tryd.prog l (encB x) W fun e W' =>
      (e = .returned (.bool true) ∧ J (pre ++ [x]) W' ∧ KpB n₀ Bd W W') ∨ (e = .returned (.bool false) ∧ Jx (pre ++ [x]) W'))
    (W : World) (hBd : W.cell? ⟨Bd, 0, none⟩ = some (.int .i64 d)) (h0 : J [] W) :
    CallsIn Fence.wide n Tryd.prog 34 #[.func (.yield l) #[] #[], .pointer (some ⟨Bd, 0, none⟩)] W (AllPost d (cntN d) J Jx) := by
  obtain ⟨hcnt, -, hc0, hc1, -⟩ := count_in d hd
  obtain ⟨cn, hcn⟩ : ∃ cn, RowKit.Hid (cn = cntN d) := ⟨_, Lib.hid rfl⟩
  rw [← hcn.out] at hcnt hc0 hc1 hY ⊢
  have hcount := fun W' => span_count.calls 6 d (cn : Int) W' hcnt
  have hof := fun (b : Nat) (hb : b < cn) W' => span_Of.calls 6 d (b : Int) (bk d b).f0 (bk d b).f1 0 W' (of_at d b hd (by rw [← hcn.out]; exact hb) 0)
  have HY := Lib.hid hY
  have HJ := Lib.hid hJ
  have HO := Lib.hid hof
  have J0 := Lib.hid h0
  have HC := Lib.hid hcount
  have HCN := Lib.hid (And.intro hc0 hc1)
  clear hcnt hY hJ hof h0 hcount hd hc0
  refine callsIn_of_wp Tryd.func34 rfl trivial ?_ rfl
  simp only [Tryd.ntmps34, List.size_toArray, List.length_cons, List.length_nil, Nat.reduceAdd, Nat.reduceSub, Array.replicate_succ, Array.replicate_zero, List.push_toArray, List.append_toArray, List.nil_append, List.cons_append]
  gi_wp2_with (first
    | (refine ⟨trivial, ?_⟩; gi_at_call 35; refine (callsIn_wide.2 (HC.out _)).mono ?_; rintro e w' ⟨rfl, ⟨nd, rfl⟩⟩))
  gi_loopw [8] (fun i wr => ∃ k : Nat, k ≤ cn ∧ i = .int .i64 k ∧ J (bkL d k) wr ∧ wr.cell? ⟨Bd, 0, none⟩ = some (.int .i64 d)) (fun i _ => cn - (intOf i).toNat)
  case atStart =>
    refine ⟨0, by omega, rfl, ?_, ?_⟩
    · exact HJ.out _ _ _ none J0.out (grown_of_below (pw_below_drewN (Below.refl _ _) nd)) (fun r e => by cases e)
    · first | exact hBd | (simpa using hBd)
  case round =>
    obtain ⟨k, hk, rfl, hJs, hcx⟩ := hrel
    by_cases hlt : k < cn
    · have l16 : (0 : Int) ≤ (k : Int) := by omega
      have u16 : (k : Int) < (cn : Int) := by omega
      have JS := Lib.hid hJs
      have hof := HO.out k hlt
      obtain ⟨q, hq⟩ : ∃ q, RowKit.Hid (q = bk d k) := ⟨_, Lib.hid rfl⟩
      rw [← hq.out] at hof
      have CX := Lib.hid hcx
      clear hJs
      gi_upto_region 4 with (first
        | (refine ⟨trivial, ?_⟩; gi_at_call 11; refine (callsIn_wide.2 (hof _)).mono ?_; rintro e w3 ⟨rfl, hb3⟩))
      obtain ⟨w4, hw4⟩ : ∃ w4, w4 = w3.alloc (.cells #[.string q.f0, .string q.f1] 27) := ⟨_, rfl⟩
      rw [← hw4]
      have b4 : Below wr.heap.size wr w4 := by rw [hw4]; exact hb3.alloc hb3.size _
      have g4 : w4.heap[w3.heap.size]? = some (.cells #[.string q.f0, .string q.f1] 27 (0, 0)) := by rw [hw4]; exact heap_alloc_new w3 _
      have z0 : w4.cell? ⟨w3.heap.size, 0, none⟩ = some (.string q.f0) := cell_of_row w4 _ 0 _ _ _ g4
      have z1 : w4.cell? ⟨w3.heap.size, 1, none⟩ = some (.string q.f1) := cell_of_row w4 _ 1 _ _ _ g4
      have J4 : J (bkL d k) w4 := HJ.out _ _ _ none JS.out (grown_of_below b4) (fun r e => by cases e)
      have C4 := Lib.hid ((b4.cell (p := ⟨Bd, 0, none⟩) (World.block_lt_of_cell? wr _ CX.out)).trans CX.out)
      obtain ⟨fn, tmps, assign, body, hy, hR⟩ := HY.out _ (k, q) w4 J4 (by rw [bkL_length]; exact hlt) (by rw [bkL_length]) (by rw [bkL_length, hq.out])
      dsimp only [encB] at hy
      have hR2 := hR.mono (R' := fun e W' => (e = .returned (.bool true) ∧ RowKit.Hid (J (bkL d k ++ [(k, q)]) W' ∧ KpB n₀ Bd w4 W')) ∨ (e = .returned (.bool false) ∧ RowKit.Hid (Jx (bkL d k ++ [(k, q)]) W'))) (by
        rintro e W' (⟨h1, h2, h3⟩ | ⟨h1, h2⟩)
        · exact .inl ⟨h1, Lib.hid ⟨h2, h3⟩⟩
        · exact .inr ⟨h1, Lib.hid h2⟩)
      clear hcx hw4 hb3 b4 g4 J4 hR hof
      gi_wp2
      refine hR2.mono ?_
      rintro e w5 (⟨rfl, h5⟩ | ⟨rfl, h5⟩)
      · gi_wp2
        go_roundw
        case rel =>
          refine ⟨k + 1, by omega, by first | rfl | go_num, ?_, h5.out.2.2 _ C4.out⟩
          rw [bkL_succ, ← hq.out]
          exact h5.out.1
        case measure => simp [intOf]; omega
      · gi_wp2
        refine bodyPost_ret (results_none rfl _ _ _) rfl ?_
        refine ⟨⟨_, rfl⟩, .inr ⟨_, ⟨k + 1, by omega, ?_⟩, h5.out⟩⟩
        rw [bkL_succ, ← hq.out]
    · obtain rfl : k = cn := by omega
      have hlt' : ¬ ((k : Int) < (k : Int)) := by omega
      have JS := Lib.hid hJs
      clear hJs
      gi_wp2
      go_end0
      exact ⟨⟨_, rfl⟩, .inl ⟨_, rfl, JS.out⟩⟩
/-- A bucket of the depth. -/
def Bk (d : Int) : Type := { x : Nat // x < cntZ d }
def fB {d : Int} (x : Bk d) : Nat × S27 := (x.1, bk d x.1)
def bkS (d : Int) (k : Nat) (hk : k ≤ cntZ d) : List (Bk d) := (List.range k).attach.map fun b => ⟨b.1, Nat.lt_of_lt_of_le (List.mem_range.1 b.2) hk⟩
theorem fB_inj {d : Int} {x y : Bk d} (h : fB x = fB y) : x = y := Subtype.ext (congrArg Prod.fst h)
theorem mapB_inj {d : Int} : ∀ (l m : List (Bk d)), l.map fB = m.map fB → l = m
  | [], [], _ => rfl
  | [], y :: m, h => by simp at h
  | x :: l, [], h => by simp at h
  | x :: l, y :: m, h => by
    rw [List.map_cons, List.map_cons] at h
    injection h with h1 h2
    rw [fB_inj h1, mapB_inj l m h2]
theorem all_stopsB (n : Nat) (hn : 1 ≤ n) (Bd n₀ : Nat) (d : Int) (w : World) (hB : Bd < w.heap.size) (hc : w.cell? ⟨Bd, 0, none⟩ = some (.int .i64 d)) :
    SeqStopsK Fence.wide n Tryd.prog 34 #[.pointer (some ⟨Bd, 0, none⟩)] (fun x : Bk d => encB (fB x)) (KpB n₀ Bd) (fun ys => ys.map fB = bkL d (cntZ d)) (fun pre => ∃ k, k ≤ cntZ d ∧ pre.map fB = bkL d k) (cntZ d) w := by
  intro l J Jx W hW hJ hJx hY h0
  have hJ2 : AbidesFrom W.heap.size (fun (pre : List (Nat × S27)) W => ∃ pre' : List (Bk d), pre'.map fB = pre ∧ J pre' W) := by
    rintro s W W' row ⟨pre', e, hj⟩ hg hr
    exact ⟨pre', e, hJ _ _ _ row hj hg hr⟩
  have post : ∀ cn, cn = cntZ d → ∀ e W', AllPost d cn (fun pre W => ∃ pre' : List (Bk d), pre'.map fB = pre ∧ J pre' W) (fun pre W => ∃ pre' : List (Bk d), pre'.map fB = pre ∧ Jx pre' W) e W' → (∃ v, e = .returned v) ∧ ((∃ xs : List (Bk d), xs.map fB = bkL d (cntZ d) ∧ J xs W') ∨ (∃ pre : List (Bk d), (∃ k, k ≤ cntZ d ∧ pre.map fB = bkL d k) ∧ Jx pre W')) := by
    rintro cn rfl e W' ⟨hv, ⟨ys, rfl, pre', h1, h2⟩ | ⟨pre, ⟨k, hk, rfl⟩, pre', h1, h2⟩⟩
    · exact ⟨hv, .inl ⟨pre', h1, h2⟩⟩
    · exact ⟨hv, .inr ⟨pre', ⟨k, hk, h1⟩, h2⟩⟩
  by_cases hd : inD d
  · have e : cntZ d = cntN d := by unfold cntZ; rw [if_pos hd]
    have h := all1_at n hn l Bd n₀ d hd (fun pre W => ∃ pre' : List (Bk d), pre'.map fB = pre ∧ J pre' W) (fun pre W => ∃ pre' : List (Bk d), pre'.map fB = pre ∧ Jx pre' W) W.heap.size hJ2 (by
      rintro pre x W ⟨pre', rfl, hj⟩ hlt hpre hx
      rw [List.length_map] at hlt hx hpre
      have hx' : x = fB (⟨pre'.length, by rw [e]; exact hlt⟩ : Bk d) := hx
      have hy := hY pre' ⟨pre'.length, by rw [e]; exact hlt⟩ W hj (by rw [e]; exact hlt)
      rw [hx']
      obtain ⟨fn, tmps, assign, body, hy, hR⟩ := hy
      refine ⟨fn, tmps, assign, body, hy, hR.mono ?_⟩
      rintro e W' (⟨h1, h2, h3⟩ | ⟨h1, h2⟩)
      · exact .inl ⟨h1, ⟨_, by rw [List.map_append]; rfl, h2⟩, h3⟩
      · exact .inr ⟨h1, ⟨_, by rw [List.map_append]; rfl, h2⟩⟩) W ((hW.cell (p := ⟨Bd, 0, none⟩) hB).trans hc) ⟨[], rfl, h0⟩
    exact h.mono (fun e' W' hh => post _ e.symm e' W' hh)
  · have e : cntZ d = 0 := by unfold cntZ; rw [if_neg hd]
    have h := all1_none n hn l Bd d hd (fun pre W => ∃ pre' : List (Bk d), pre'.map fB = pre ∧ J pre' W) (fun pre W => ∃ pre' : List (Bk d), pre'.map fB = pre ∧ Jx pre' W) W.heap.size hJ2 W ((hW.cell (p := ⟨Bd, 0, none⟩) hB).trans hc) ⟨[], rfl, h0⟩
    exact h.mono (fun e' W' hh => post _ e.symm e' W' hh)
section
variable (P : Program) (w : World) (a : Addr) (m : Mode)
attribute [local go_sem] Oper.semAt_some
@[local go_sem] theorem run_store_func (f : Fn) (cl b : Array Value) : (store a (.func f cl b) m).run P w = stored P w a (.func f cl b) m := run_store P w a _ m rfl
end
section
attribute [local go_sem] Oper.semAt_some run_store_func
set_option maxRecDepth 100000 in
theorem eql_fn (b : Array Value) (W : World) : (binOp .eql 24 (.func (.func 34) #[] b) .nilFunc).run Tryd.prog W = .ok (.bool false) W := by
  kernel_rfl
attribute [local go_sem] eql_fn
/-- The boxes that the law lays ahead of its loop. -/
def Base (n0 : Nat) (d leave : Int) (cn : Nat) (W : World) : Prop := Boxed W n0 3 (.int .i64 d) ∧ Boxed W (n0 + 1) 3 (.int .i64 leave) ∧ Boxed W (n0 + 2) 4 (.bool false) ∧ Boxed W (n0 + 3) 3 (.int .i64 (cn : Int)) ∧ Boxed W (n0 + 4) 3 (.int .i64 d) ∧ Boxed W (n0 + 5) 24 (.func (.func 34) #[] #[.pointer (some ⟨n0 + 4, 0, none⟩)])
theorem box_below {W W' : World} {m B : Nat} {t : TypeId} {v : Value} (h : Boxed W B t v) (hb : Below m W W') (hm : B < m) : Boxed W' B t v := (hb.block B hm).trans h
theorem Base.below {n0 : Nat} {d leave : Int} {cn : Nat} {W W' : World} (h : Base n0 d leave cn W) (hb : Below (n0 + 6) W W') : Base n0 d leave cn W' :=
  ⟨box_below h.1 hb (by omega), box_below h.2.1 hb (by omega), box_below h.2.2.1 hb (by omega), box_below h.2.2.2.1 hb (by omega), box_below h.2.2.2.2.1 hb (by omega), box_below h.2.2.2.2.2 hb (by omega)⟩
/-- The number in a box. -/
def rndM (v : Value) (wr : World) : Nat := match v with | .pointer (some ad) => (match wr.cell? ad with | some x => (intOf x).toNat | none => 0) | _ => 0
theorem rndM_box {W : World} {B : Nat} {k : Nat} (h : Boxed W B 3 (.int .i64 (k : Int))) : rndM (.pointer (some ⟨B, 0, none⟩)) W = k := by
  show (match W.cell? ⟨B, 0, none⟩ with | some x => (intOf x).toNat | none => 0) = k
  rw [h.cell]
  simp [intOf]
def fnV (n0 : Nat) : Value := .func (.func 34) #[] #[.pointer (some ⟨n0 + 1 + 1 + 1 + 1, 0, none⟩)]
/-- The law's frame in its loop. -/
def FrS (n0 : Nat) (d leave : Int) (cn B : Nat) (u : Nat → Value) : Array Value := #[.int .i64 d, .int .i64 leave, .pointer (some ⟨n0, 0, none⟩), .pointer (some ⟨n0 + 1, 0, none⟩), .pointer (some ⟨n0 + 1 + 1, 0, none⟩), .pointer (some ⟨n0 + 1 + 1 + 1, 0, none⟩), .pointer (some ⟨n0 + 1 + 1 + 1 + 1 + 1, 0, none⟩), .pointer (some ⟨B, 0, none⟩), u 8, u 9, u 10, u 11, u 12, u 13, u 14, u 15, undef, undef, .int .i64 d, .int .i64 (cn : Int), .int .i64 d, fnV n0, fnV n0, .bool false, u 24, u 25, u 26, u 27, u 28, undef, undef, u 31, u 32, u 33, u 34, u 35, u 36, u 37, u 38, u 39, u 40, u 41, u 42, u 43, u 44, u 45, u 46, u 47, u 48, u 49, u 50, u 51, u 52, u 53, u 54, u 55, u 56, u 57, u 58, u 59, u 60, u 61, u 62, u 63, u 64, u 65, u 66, u 67, u 68, u 69, u 70, u 71, u 72, u 73, u 74, u 75, u 76, u 77, u 78, u 79, u 80, u 81, u 82, u 83, u 84, u 85, u 86, u 87, u 88, u 89, u 90, u 91, u 92, u 93, u 94, u 95, u 96, u 97, u 98, u 99, u 100, u 101, u 102, u 103, u 104, u 105, u 106, u 107, u 108, undef, undef, undef, undef, undef, undef, undef, undef, undef, undef, undef]
def colD (D : Nat) : Deferred := { target := .collected D, args := #[] }
def DS (n0 k : Nat) (ds : List Deferred) (w : World) : Prop := (k = 0 ∧ ds = []) ∨ (k = 1 ∧ ∃ D1, n0 + 6 ≤ D1 ∧ ds = [colD D1] ∧ w.heap[D1]? = some (.deferred (some []))) ∨ (k = 2 ∧ ∃ D1 D2, (n0 + 6 ≤ D1 ∧ n0 + 6 ≤ D2 ∧ D2 ≠ D1) ∧ ds = [colD D2, colD D1] ∧ w.heap[D1]? = some (.deferred (some [])) ∧ w.heap[D2]? = some (.deferred (some [])))
def RA (n0 : Nat) (d leave : Int) (cn : Nat) (W6 : World) (a : Act) (w : World) : Prop := ∃ (ds : List Deferred) (B k : Nat), a = { tmps := FrS n0 d leave cn B (fun n => a.tmps.getD n undef), defers := ds } ∧ DS n0 k ds w ∧ n0 + 6 ≤ B ∧ k ≤ 2 ∧ Boxed w B 3 (.int .i64 k) ∧ Below (n0 + 6) W6 w
theorem results_bool (tmps : Array Value) (W : World) (g : Nat) (b : Bool) (hp : tmps.getD 4 undef = .pointer (some ⟨g, 0, none⟩)) (hg : W.cell? ⟨g, 0, none⟩ = some (.bool b)) : (results Tryd.f3 tmps).run Tryd.prog W = .ok (.bool b) W := by
  have hp' : tmps[4]?.getD undef = .pointer (some ⟨g, 0, none⟩) := by simpa using hp
  have hr : Tryd.f3.results = #[.cell 4 4] := by rfl
  simp [results, hr, hp', asAddr, go_sem, loadVar, hg]
/-- The frame of a round's body. -/
def FrB (n0 : Nat) (d leave : Int) (cn B sz k : Nat) (u : Nat → Value) (x : Nat) (q : S27) (Bx : Nat) : Array Value := #[.int .i64 d, .int .i64 leave, .pointer (some ⟨n0, 0, none⟩), .pointer (some ⟨n0 + 1, 0, none⟩), .pointer (some ⟨n0 + 1 + 1, 0, none⟩), .pointer (some ⟨n0 + 1 + 1 + 1, 0, none⟩), .pointer (some ⟨n0 + 1 + 1 + 1 + 1 + 1, 0, none⟩), .pointer (some ⟨B, 0, none⟩), .pointer (some ⟨sz, 0, none⟩), .pointer (some ⟨sz + 1, 0, none⟩), .int .i64 (x : Int), .pointer (some ⟨Bx, 0, none⟩), u 12, u 13, u 14, u 15, undef, undef, .int .i64 d, .int .i64 (cn : Int), .int .i64 d, fnV n0, fnV n0, .bool false, .int .i64 (k : Int), .bool true, u 26, u 27, fnV n0, .int .i64 (x : Int), .agg #[.string q.f0, .string q.f1], u 31, u 32, u 33, u 34, u 35, u 36, u 37, u 38, u 39, u 40, u 41, u 42, u 43, u 44, u 45, u 46, u 47, u 48, u 49, u 50, u 51, u 52, u 53, u 54, u 55, u 56, u 57, u 58, u 59, u 60, u 61, u 62, u 63, u 64, u 65, u 66, u 67, u 68, u 69, u 70, u 71, u 72, u 73, u 74, u 75, u 76, u 77, u 78, u 79, u 80, u 81, u 82, u 83, u 84, u 85, u 86, u 87, u 88, u 89, u 90, u 91, u 92, u 93, u 94, u 95, u 96, u 97, u 98, u 99, u 100, u 101, u 102, u 103, u 104, u 105, u 106, u 107, u 108, undef, undef, undef, undef, undef, undef, undef, undef, undef, undef, undef]
/-- Is the n-th of them n? -/
def rtB {d : Int} (pre : List (Bk d)) : Bool := decide (pre.map (fun x => x.1) = List.range pre.length)
theorem rtB_snoc {d : Int} (pre : List (Bk d)) (x : Bk d) : rtB (pre ++ [x]) = (rtB pre && decide (x.1 = pre.length)) := by
  unfold rtB
  rw [List.map_append, List.length_append, show [x].length = 1 from rfl, List.range_succ, ← Bool.decide_and]
  apply decide_eq_decide.2
  constructor
  · intro h
    have h2 := List.append_inj' h rfl
    exact ⟨h2.1, by simpa using h2.2⟩
  · rintro ⟨h1, h2⟩
    rw [h1]
    simp [h2]
theorem fst_bkL {d : Int} {pre : List (Bk d)} {k : Nat} (h : pre.map fB = bkL d k) : pre.length = k ∧ pre.map (fun x => x.1) = List.range k := by
  have h1 : pre.length = k := by have := congrArg List.length h; rw [List.length_map, bkL_length] at this; exact this
  refine ⟨h1, ?_⟩
  have h2 := congrArg (List.map Prod.fst) h
  rw [List.map_map] at h2
  unfold bkL at h2
  rw [List.map_map] at h2
  have e : (Prod.fst ∘ fun b : Nat => (b, bk d b)) = id := rfl
  rw [e, List.map_id] at h2
  exact h2
theorem rtB_bkL {d : Int} {pre : List (Bk d)} {k : Nat} (h : pre.map fB = bkL d k) : rtB pre = true := by
  obtain ⟨h1, h2⟩ := fst_bkL h
  unfold rtB
  rw [h1, h2]
  exact decide_eq_true rfl
def lastB {d : Int} (pre : List (Bk d)) : Option Int := pre.getLast?.map fun x => (x.1 : Int)
theorem last_bkL {d : Int} {pre : List (Bk d)} {k : Nat} {v : Int} (h : pre.map fB = bkL d k) (hl : lastB pre = some v) : (pre.length : Int) - 1 = v ∧ 0 ≤ v ∧ v < (k : Int) := by
  obtain ⟨h1, h2⟩ := fst_bkL h
  have h3 : lastB pre = ((pre.map (fun x => x.1)).getLast?).map (fun n : Nat => (n : Int)) := by
    unfold lastB
    rw [List.getLast?_map, Option.map_map]
    rfl
  rw [h3, h2] at hl
  cases k with
  | zero => simp at hl
  | succ k =>
    rw [List.range_succ] at hl
    simp at hl
    omega
set_option maxRecDepth 100000 in
set_option maxHeartbeats 16000000 in
theorem spanall (w : World) (d leave : Int) :
    Calls Tryd.prog 3 #[.int .i64 d, .int .i64 leave] w fun e w' => e = .returned (.bool true) ∧ Below w.heap.size w w' := by
  have hcz := cntZ_le d
  have HC := Lib.hid (fun W => rCount d W)
  obtain ⟨cn, hcn⟩ : ∃ cn, RowKit.Hid (cn = cntZ d) := ⟨_, Lib.hid rfl⟩
  rw [← hcn.out] at HC hcz
  refine (callsIn_wide (n := 14)).1 (callsIn_of_wp_marks Tryd.func3 rfl trivial ?_ rfl)
  simp only [Tryd.ntmps3, List.size_toArray, List.length_cons, List.length_nil, Nat.reduceAdd, Nat.reduceSub, Array.replicate_succ, Array.replicate_zero, List.push_toArray, List.append_toArray, List.nil_append, List.cons_append]
  gi_upto_region 6 with (first
    | (refine ⟨trivial, ?_⟩; gi_at_call 8; refine (callsIn_wide.2 (HC.out _)).mono ?_; rintro e w' ⟨rfl, ⟨nd, rfl⟩⟩)
    | (refine ⟨trivial, ?_⟩; gi_at_call 9; refine (all_in _ _ _).mono ?_; rintro e w' ⟨rfl, rfl⟩))
  obtain ⟨n0, hn0⟩ : ∃ n0, RowKit.Hid (n0 = w.heap.size) := ⟨_, Lib.hid rfl⟩
  obtain ⟨W3, hW3⟩ : ∃ W3, ((w.alloc (.cells #[.int .i64 d] 3)).alloc (.cells #[.int .i64 leave] 3)).alloc (.cells #[.bool false] 4) = W3 := ⟨_, rfl⟩
  have s3 : W3.heap.size = n0 + 3 := by rw [← hW3, hn0.out]; simp
  have p0 : Boxed W3 n0 3 (.int .i64 d) := by rw [← hW3, hn0.out]; exact ((Boxed.new w 3 _).alloc _).alloc _
  have p1 : Boxed W3 (n0 + 1) 3 (.int .i64 leave) := by
    have h := (Boxed.new (w.alloc (.cells #[.int .i64 d] 3)) 3 (.int .i64 leave)).alloc (.cells #[.bool false] 4)
    rw [hW3, World.size_alloc, ← hn0.out] at h; exact h
  have p2 : Boxed W3 (n0 + 2) 4 (.bool false) := by
    have h := Boxed.new ((w.alloc (.cells #[.int .i64 d] 3)).alloc (.cells #[.int .i64 leave] 3)) 4 (.bool false)
    rw [hW3, World.size_alloc, World.size_alloc, ← hn0.out] at h; exact h
  have b3 : Below n0 w W3 := by
    rw [← hW3]
    exact (((Below.refl n0 w).alloc (by rw [hn0.out]; exact Nat.le_refl _) _).alloc (by rw [World.size_alloc, hn0.out]; omega) _).alloc (by rw [World.size_alloc, World.size_alloc, hn0.out]; omega) _
  rw [hW3]
  clear hW3
  have bd3 : Below W3.heap.size W3 (W3.drewN nd) := pw_below_drewN (Below.refl _ _) nd
  obtain ⟨W3d, hW3d⟩ : ∃ W3d, W3.drewN nd = W3d := ⟨_, rfl⟩
  have s3d : W3d.heap.size = n0 + 3 := by rw [← hW3d, ← s3]; simp
  rw [hW3d] at bd3 ⊢
  clear hW3d
  replace p0 := p0.kept (grown_of_below bd3) (by simp)
  replace p1 := p1.kept (grown_of_below bd3) (by simp)
  replace p2 := p2.kept (grown_of_below bd3) (by simp)
  have b3d : Below n0 w W3d := b3.trans (bd3.mono (by omega))
  clear bd3 b3 s3
  obtain ⟨W6, hW6⟩ : ∃ W6, ((W3d.alloc (.cells #[.int .i64 (cn : Int)] 3)).alloc (.cells #[.int .i64 d] 3)).alloc (.cells #[.func (.func 34) #[] #[.pointer (some ⟨n0 + 1 + 1 + 1 + 1, 0, none⟩)]] 24) = W6 := ⟨_, rfl⟩
  have s6 : W6.heap.size = n0 + 6 := by rw [← hW6]; simp [s3d]
  have p3 : Boxed W6 (n0 + 3) 3 (.int .i64 (cn : Int)) := by
    have h := ((Boxed.new W3d 3 (.int .i64 (cn : Int))).alloc (.cells #[.int .i64 d] 3)).alloc (.cells #[.func (.func 34) #[] #[.pointer (some ⟨n0 + 1 + 1 + 1 + 1, 0, none⟩)]] 24)
    rw [hW6, s3d] at h; exact h
  have p4 : Boxed W6 (n0 + 4) 3 (.int .i64 d) := by
    have h := (Boxed.new (W3d.alloc (.cells #[.int .i64 (cn : Int)] 3)) 3 (.int .i64 d)).alloc (.cells #[.func (.func 34) #[] #[.pointer (some ⟨n0 + 1 + 1 + 1 + 1, 0, none⟩)]] 24)
    rw [hW6, World.size_alloc, s3d] at h; exact h
  have p5 : Boxed W6 (n0 + 5) 24 (.func (.func 34) #[] #[.pointer (some ⟨n0 + 4, 0, none⟩)]) := by
    have h := Boxed.new ((W3d.alloc (.cells #[.int .i64 (cn : Int)] 3)).alloc (.cells #[.int .i64 d] 3)) 24 (.func (.func 34) #[] #[.pointer (some ⟨n0 + 1 + 1 + 1 + 1, 0, none⟩)])
    rw [hW6, World.size_alloc, World.size_alloc, s3d] at h; exact h
  have b6 : Below n0 w W6 := by
    rw [← hW6]
    exact ((b3d.alloc (by omega) _).alloc (by rw [World.size_alloc]; omega) _).alloc (by rw [World.size_alloc, World.size_alloc]; omega) _
  replace p0 : Boxed W6 n0 3 (.int .i64 d) := by rw [← hW6]; exact ((p0.alloc _).alloc _).alloc _
  replace p1 : Boxed W6 (n0 + 1) 3 (.int .i64 leave) := by rw [← hW6]; exact ((p1.alloc _).alloc _).alloc _
  replace p2 : Boxed W6 (n0 + 2) 4 (.bool false) := by rw [← hW6]; exact ((p2.alloc _).alloc _).alloc _
  rw [← hn0.out, hW6]
  clear hW6 s3d b3d
  have BS : RowKit.Hid (Base n0 d leave cn W6) := Lib.hid ⟨p0, p1, p2, p3, p4, p5⟩
  have B6 := Lib.hid (And.intro b6 s6)
  clear p0 p1 p2 p3 p4 p5 b6
  refine wpIn_loop (RA n0 d leave cn W6) (fun a w => 2 - rndM (a.tmps.getD 7 undef) w) ?atStart ?round
  case atStart =>
    rw [← s6]
    exact ⟨[], W6.heap.size, 0, rfl, .inl ⟨rfl, rfl⟩, by omega, by omega, Boxed.new W6 3 _, (Below.refl _ _).alloc (by omega) _⟩
  case round =>
    rintro a wr ⟨ds, B, k, ha, hds, hB, hk, bB, hb⟩
    generalize (fun n => a.tmps.getD n undef) = u at ha
    subst ha
    dsimp only [FrS, fnV]
    have BR := Lib.hid (BS.out.below hb)
    have c0 : wr.cell? ⟨n0, 0, none⟩ = some (.int .i64 d) := BR.out.1.cell
    have c1 : wr.cell? ⟨n0 + 1, 0, none⟩ = some (.int .i64 leave) := BR.out.2.1.cell
    have c2 : wr.cell? ⟨n0 + 1 + 1, 0, none⟩ = some (.bool false) := BR.out.2.2.1.cell
    have f2 : wr.frozen? ⟨n0 + 1 + 1, 0, none⟩ = false := BR.out.2.2.1.frozen
    have c3 : wr.cell? ⟨n0 + 1 + 1 + 1, 0, none⟩ = some (.int .i64 (cn : Int)) := BR.out.2.2.2.1.cell
    have c5 : wr.cell? ⟨n0 + 1 + 1 + 1 + 1 + 1, 0, none⟩ = some (.func (.func 34) #[] #[.pointer (some ⟨n0 + 1 + 1 + 1 + 1, 0, none⟩)]) := BR.out.2.2.2.2.2.cell
    have cB := bB.cell
    have fB := bB.frozen
    have hsz := hb.size
    have hsz2 : n0 + 6 ≤ wr.heap.size := by have := B6.out.2; omega
    by_cases hk2 : k < 2
    · have t2 : (k : Int) < 2 := by omega
      have HR := Lib.hid (And.intro bB hb)
      clear bB hb
      gi_upto_region 10 with (fail)
      have bN := (Boxed.new wr 3 (.int .i64 0)).alloc (.cells #[.bool true] 4)
      have bT := Boxed.new (wr.alloc (.cells #[.int .i64 0] 3)) 4 (.bool true)
      rw [World.size_alloc] at bT
      have bb : Below wr.heap.size wr ((wr.alloc (.cells #[.int .i64 0] 3)).alloc (.cells #[.bool true] 4)) := ((Below.refl _ wr).alloc (Nat.le_refl _) _).alloc (by rw [World.size_alloc]; omega) _
      have s1 : ((wr.alloc (.cells #[.int .i64 0] 3)).alloc (.cells #[.bool true] 4)).heap.size = wr.heap.size + 2 := by simp
      obtain ⟨W1, hW1⟩ : ∃ W1, (wr.alloc (.cells #[.int .i64 0] 3)).alloc (.cells #[.bool true] 4) = W1 := ⟨_, rfl⟩
      rw [hW1] at bN bT bb s1 ⊢
      clear hW1
      obtain ⟨sz, hsz1⟩ : ∃ sz, RowKit.Hid (sz = wr.heap.size) := ⟨_, Lib.hid rfl⟩
      rw [← hsz1.out] at bN bT s1 hsz ⊢
      have HR1 := Lib.hid (And.intro (box_below HR.out.1 bb HR.out.1.lt) (HR.out.2.trans (bb.mono (by rw [← hsz1.out]; omega))))
      have B1 := Lib.hid (BR.out.below (bb.mono (by rw [← hsz1.out]; omega)))
      have d5 : W1.cell? ⟨n0 + 1 + 1 + 1 + 1 + 1, 0, none⟩ = some (.func (.func 34) #[] #[.pointer (some ⟨n0 + 1 + 1 + 1 + 1, 0, none⟩)]) := B1.out.2.2.2.2.2.cell
      have BB1 := Lib.hid bb
      clear c0 c1 c2 f2 c3 c5 cB fB bb
      gi_wp2_with (fail)
      rw [hcn.out] at hcz HC
      refine wpIn_rangeFunc_ownH (F := Fence.wide) rfl (by omega) (gf := 34) (lb := #[.pointer (some ⟨n0 + 1 + 1 + 1 + 1, 0, none⟩)]) rfl trivial (enters_of Tryd.func34 (by kernel_rfl) rfl)
        (all_stopsB 13 (by omega) (n0 + 1 + 1 + 1 + 1) sz d W1 (by omega) B1.out.2.2.2.2.1.cell) (fun h k => KpB.trans h k) (fun W l o o' hl ho hc hw => KpB.put (w := W1) (by omega) W l o o' hl ho hc hw) (Below.refl _ _) (fun _ => rfl)
        (fun pre W => ((Boxed W sz 3 (.int .i64 (pre.length : Int)) ∧ Boxed W (sz + 1) 4 (.bool (rtB pre))) ∧ (k = 0 → ∀ x ∈ pre, ((x.1 : Nat) : Int) ≠ leave)) ∧ Below sz W1 W)
        (fun c pre W => ((Boxed W sz 3 (.int .i64 ((pre.length : Int) - 1)) ∧ Boxed W (sz + 1) 4 (.bool (rtB pre))) ∧ (c = .exit 2 ∧ k = 0 ∧ lastB pre = some leave)) ∧ Below sz W1 W)
        (OwnFrom.and (OwnFrom.and (OwnFrom.and (Own.from (boxed_own sz 3 (fun pre : List (Bk d) => Value.int .i64 (pre.length : Int))) _) (Own.from (boxed_own (sz + 1) 4 (fun pre : List (Bk d) => Value.bool (rtB pre))) _)) (fun _ _ _ _ hs _ _ => hs)) (ownFrom_below (by omega) (by omega)))
        (fun c => OwnFrom.and (OwnFrom.and (OwnFrom.and (Own.from (boxed_own sz 3 (fun pre : List (Bk d) => Value.int .i64 ((pre.length : Int) - 1))) _) (Own.from (boxed_own (sz + 1) 4 (fun pre : List (Bk d) => Value.bool (rtB pre))) _)) (fun _ _ _ _ hs _ _ => hs)) (ownFrom_below (by omega) (by omega))) ⟨⟨⟨bN, bT⟩, fun _ x hx => by cases hx⟩, Below.refl _ _⟩
        (fun x a' W => ∃ Bx, sz + 1 < Bx ∧ W.heap[Bx]? = some (.cells #[.string (bk d x.1).f0, .string (bk d x.1).f1] 27 (0, 0)) ∧ a' = { tmps := FrB n0 d leave cn B sz k u x.1 (bk d x.1) Bx, defers := [] })
        (fun x a' _ X Y row hs hg hr => by obtain ⟨Bx, h1, h2, h3⟩ := hs; exact ⟨Bx, h1, cells_own Bx _ rfl () X Y row h2 hg (fun r e => (hr r e).2), h3⟩)
        ?assign ?body ?done ?stop
      case assign =>
        rintro l pre x W K hI hK
        simp only [encB, fB]
        gi_wp2
        refine hK _ _ ((KeepsOthers.alloc _ _).from _) (KpB.below ((Below.refl _ W).alloc (Nat.le_refl _) _) (Nat.le_trans (by omega) hI.2.size)) ⟨⟨⟨hI.1.1.1.alloc _, hI.1.1.2.alloc _⟩, hI.1.2⟩, hI.2.alloc (Nat.le_trans (by omega) hI.2.size) _⟩ ⟨W.heap.size, hI.1.1.2.lt, heap_alloc_new W _, rfl⟩
      case body =>
        rintro l pre x a' W hlW ⟨rr, hrr⟩ ⟨⟨⟨b8, b9⟩, hnl⟩, hBW⟩ ⟨Bx, hBx, hX, rfl⟩ hlt
        dsimp only [FrB, fnV]
        have hd : inD d := Classical.byContradiction fun h => Nat.not_lt_zero _ (Nat.lt_of_lt_of_le x.2 (Nat.le_of_eq (if_neg h)))
        have hxc : x.1 < cntN d := Nat.lt_of_lt_of_le x.2 (Nat.le_of_eq (if_pos hd))
        have hof := fun W => hawserref06_Of.calls 20 d (x.1 : Int) (bk d x.1).f0 (bk d x.1).f1 0 W (rof_at d x.1 hd hxc 0)
        have HO := Lib.hid hof
        have BW2 := Lib.hid (B1.out.below (hBW.mono (by omega)))
        have c0' : W.cell? ⟨n0, 0, none⟩ = some (.int .i64 d) := BW2.out.1.cell
        clear hof
        have hBsz : B < sz := by rw [hsz1.out]; exact HR.out.1.lt
        obtain ⟨q, hq⟩ : ∃ q, RowKit.Hid (q = bk d x.1) := ⟨_, Lib.hid rfl⟩
        rw [← hq.out] at HO hX ⊢
        obtain ⟨xn, hxn⟩ : ∃ xn, RowKit.Hid (xn = x.1) := ⟨_, Lib.hid rfl⟩
        rw [← hxn.out] at HO ⊢
        have hxl : pre.length < cn := by rw [hcn.out]; exact hlt
        have hsW := hBW.size
        have lW : sz + 2 ≤ W.heap.size := by omega
        have cN' := b8.cell
        have cR' := b9.cell
        have fR' := b9.frozen
        have xz0 : W.cell? ⟨Bx, 0, none⟩ = some (.string q.f0) := cell_of_row W _ 0 _ _ _ hX
        have xz1 : W.cell? ⟨Bx, 1, none⟩ = some (.string q.f1) := cell_of_row W _ 1 _ _ _ hX
        have lx : Bx < W.heap.size := (Array.getElem?_eq_some_iff.1 hX).1
        have LL := Lib.hid (And.intro hlW hrr)
        have BB := Lib.hid (And.intro b8 (And.intro b9 (And.intro hBW hnl)))
        clear b8 b9 hBW hnl hlW hrr hlt hd hxc hX
        gi_upto_region 14 with (first
          | (refine ⟨trivial, ?_⟩; gi_at_call 10; refine (CallsIn.inRound l (callsIn_wide.2 (HO.out _))).mono ?_; rintro e w7 ⟨rfl, hb7⟩; have b7 := Lib.hid hb7; clear hb7))
        obtain ⟨W8, hW8⟩ : ∃ W8, w7.alloc (.cells #[.string q.f0, .string q.f1] 28) = W8 := ⟨_, rfl⟩
        have bb8 : Below W.heap.size W W8 := by rw [← hW8]; exact b7.out.alloc b7.out.size _
        have g8 : W8.heap[w7.heap.size]? = some (.cells #[.string q.f0, .string q.f1] 28 (0, 0)) := by rw [← hW8]; exact heap_alloc_new w7 _
        obtain ⟨s7, hs7⟩ : ∃ s7, RowKit.Hid (s7 = w7.heap.size) := ⟨_, Lib.hid rfl⟩
        rw [← hs7.out] at g8 ⊢
        rw [hW8]
        clear hW8
        have y0 : W8.cell? ⟨s7, 0, none⟩ = some (.string q.f0) := cell_of_row W8 _ 0 _ _ _ g8
        have y1 : W8.cell? ⟨s7, 1, none⟩ = some (.string q.f1) := cell_of_row W8 _ 1 _ _ _ g8
        have q8 := box_below BB.out.1 bb8 BB.out.1.lt
        have q9 := box_below BB.out.2.1 bb8 BB.out.2.1.lt
        have e8 := q8.cell
        have e9 := q9.cell
        have f9 := q9.frozen
        have v0 : W8.cell? ⟨Bx, 0, none⟩ = some (.string q.f0) := (bb8.cell (p := ⟨Bx, 0, none⟩) lx).trans xz0
        have v1 : W8.cell? ⟨Bx, 1, none⟩ = some (.string q.f1) := (bb8.cell (p := ⟨Bx, 1, none⟩) lx).trans xz1
        have bs8 : Below sz W1 W8 := BB.out.2.2.1.trans (bb8.mono (by omega))
        have bB8 := box_below HR1.out.1 bs8 hBsz
        have cB8 := bB8.cell
        have BW8 := B1.out.below (bs8.mono (by omega))
        have cl8 : W8.cell? ⟨n0 + 1, 0, none⟩ = some (.int .i64 leave) := BW8.2.1.cell
        have cn8 : W8.cell? ⟨n0 + 1 + 1 + 1, 0, none⟩ = some (.int .i64 (cn : Int)) := BW8.2.2.2.1.cell
        have ca8 : W8.cell? ⟨n0 + 1 + 1 + 1 + 1 + 1, 0, none⟩ = some (.func (.func 34) #[] #[.pointer (some ⟨n0 + 1 + 1 + 1 + 1, 0, none⟩)]) := BW8.2.2.2.2.2.cell
        have K8 := Lib.hid (And.intro bb8 (And.intro q8 (And.intro q9 (And.intro bs8 BW8))))
        clear bb8 g8 q8 q9 bs8 bB8 BW8 c0' cN' cR' fR' xz0 xz1 hsz2 hsz
        by_cases hxp : xn = pre.length
        · obtain rfl : xn = pre.length := hxp
          gi_upto_region 16 with (fail)
          obtain ⟨rv, hrv⟩ : ∃ rv, RowKit.Hid (rv = rtB (pre ++ [x])) := ⟨_, Lib.hid rfl⟩
          obtain ⟨W9, hW9⟩ : ∃ W9, W8 = W9 := ⟨_, rfl⟩
          have rE : rv = rtB pre := by rw [hrv.out, rtB_snoc, ← hxn.out]; simp
          have r9 : RowKit.Hid (Boxed W9 sz 3 (.int .i64 (pre.length : Int)) ∧ Boxed W9 (sz + 1) 4 (.bool rv) ∧ Below sz W1 W9 ∧ KeepsOthers W W9 ∧ Below sz W W9) := Lib.hid (by
            rw [← hW9, rE]
            exact ⟨K8.out.2.1, K8.out.2.2.1, K8.out.2.2.2.1, KeepsOthers.of_grownBy (grown_of_below K8.out.1) (fun j o e => by cases e), K8.out.1.mono (by omega)⟩)
          rw [hW9]
          clear hW9 rE e8 e9 f9 v0 v1 y0 y1 cB8 cl8 cn8 ca8
          have e9' := r9.out.1.cell
          have t9' := r9.out.2.1.cell
          have ft9 := r9.out.2.1.frozen
          have fe9 := r9.out.1.frozen
          have bB9 := box_below HR1.out.1 r9.out.2.2.1 hBsz
          have cB9 := bB9.cell
          have BW9 := B1.out.below (r9.out.2.2.1.mono (by omega))
          have cl9 : W9.cell? ⟨n0 + 1, 0, none⟩ = some (.int .i64 leave) := BW9.2.1.cell
          have cn9 : W9.cell? ⟨n0 + 1 + 1 + 1, 0, none⟩ = some (.int .i64 (cn : Int)) := BW9.2.2.2.1.cell
          have ca9 : W9.cell? ⟨n0 + 1 + 1 + 1 + 1 + 1, 0, none⟩ = some (.func (.func 34) #[] #[.pointer (some ⟨n0 + 1 + 1 + 1 + 1, 0, none⟩)]) := BW9.2.2.2.2.2.cell
          have hi0 : cn ≤ 4096 := by rw [hcn.out]; exact cntZ_le d
          have hi1 : (pre.length : Int) < (cn : Int) := by omega
          have hi2 : (cn : Int) ≤ 4096 := by omega
          have hi3 : ¬ ((pre.length : Int) + 1 > (cn : Int)) := by omega
          have hi4 : decide ((cn : Int) < (pre.length : Int) + 1) = false := by simp; omega
          have L9 : RowKit.Hid (W9.heap[l]? = some (.loop rr)) := Lib.hid (r9.out.2.2.2.1.same l _ LL.out.2 rfl)
          have KW9 := Lib.hid (And.intro bB9 BW9)
          have hs9 : sz + 2 ≤ W9.heap.size := by have := r9.out.2.2.2.1.size; omega
          clear bB9 BW9
          by_cases hk0 : k = 0
          · subst hk0
            by_cases hxv : (pre.length : Int) = leave
            · obtain rfl : leave = (pre.length : Int) := hxv.symm
              gi_upto_region 18 with (fail)
              obtain ⟨W10, hW10⟩ : ∃ W10, W9.alloc (.cells #[.int .i64 0] 3) = W10 := ⟨_, rfl⟩
              obtain ⟨n9, hn9⟩ : ∃ n9, RowKit.Hid (n9 = W9.heap.size) := ⟨_, Lib.hid rfl⟩
              have i10 : Boxed W10 n9 3 (.int .i64 0) := by rw [← hW10, hn9.out]; exact Boxed.new W9 3 _
              have b10 : Below n9 W9 W10 := by rw [← hW10, hn9.out]; exact (Below.refl _ _).alloc (Nat.le_refl _) _
              have s10 : W10.heap.size = n9 + 1 := by rw [← hW10, hn9.out]; simp
              have hn9b : sz + 2 ≤ n9 := by rw [hn9.out]; exact hs9
              rw [hW10, ← hn9.out]
              clear hW10
              rw [hn9.out] at b10
              have ca10 : W10.cell? ⟨n0 + 1 + 1 + 1 + 1 + 1, 0, none⟩ = some (.func (.func 34) #[] #[.pointer (some ⟨n0 + 1 + 1 + 1 + 1, 0, none⟩)]) := (b10.cell (p := ⟨n0 + 1 + 1 + 1 + 1 + 1, 0, none⟩) (by simp; omega)).trans ca9
              have cd10 : W10.cell? ⟨n0 + 1 + 1 + 1 + 1, 0, none⟩ = some (.int .i64 d) := (b10.cell (p := ⟨n0 + 1 + 1 + 1 + 1, 0, none⟩) (by simp; omega)).trans KW9.out.2.2.2.2.2.1.cell
              have cn10 : W10.cell? ⟨n0 + 1 + 1 + 1, 0, none⟩ = some (.int .i64 (cn : Int)) := (b10.cell (p := ⟨n0 + 1 + 1 + 1, 0, none⟩) (by simp; omega)).trans cn9
              have l10 : W10.heap[l]? = some (.loop rr) := (b10.block l (Array.getElem?_eq_some_iff.1 L9.out).1).trans L9.out
              rw [← hn9.out] at b10
              have I10 := Lib.hid (And.intro i10 (And.intro b10 l10))
              clear e9' t9' ft9 fe9 cB9 cl9 cn9 ca9 i10 l10
              gi_wp2_with (fail)
              refine wpIn_rangeFunc_ownN (F := Fence.wide.inRound l) (l₀ := l) (r₀ := rr) rfl I10.out.2.2 (by omega) (gf := 34) (lb := #[.pointer (some ⟨n0 + 1 + 1 + 1 + 1, 0, none⟩)]) rfl trivial (enters_of Tryd.func34 (by kernel_rfl) rfl)
                (SeqStopsK.inRound l (all_stopsB 11 (by omega) (n0 + 1 + 1 + 1 + 1) n9 d W10 (by omega) cd10)) (fun h k => KpB.trans h k) (fun W l o o' hl ho hc hw => KpB.put (w := W10) (by omega) W l o o' hl ho hc hw) (Below.refl _ _) (fun _ => rfl)
                (fun pre2 Y => Boxed Y n9 3 (.int .i64 (pre2.length : Int)) ∧ Below n9 W10 Y)
                (fun _ _ _ => False)
                (OwnFrom.and (Own.from (boxed_own n9 3 (fun pre2 : List (Bk d) => Value.int .i64 (pre2.length : Int))) _) (ownFrom_below (by omega) (by omega)))
                (fun _ _ _ _ _ hs _ _ => hs) ⟨I10.out.1, Below.refl _ _⟩
                (fun x2 a' _ => a' = { tmps := #[Value.int .i64 d, Value.int .i64 (pre.length : Int), Value.pointer (some ⟨n0, 0, none⟩), Value.pointer (some ⟨n0 + 1, 0, none⟩), Value.pointer (some ⟨n0 + 1 + 1, 0, none⟩), Value.pointer (some ⟨n0 + 1 + 1 + 1, 0, none⟩), Value.pointer (some ⟨n0 + 1 + 1 + 1 + 1 + 1, 0, none⟩), Value.pointer (some ⟨B, 0, none⟩), Value.pointer (some ⟨sz, 0, none⟩), Value.pointer (some ⟨sz + 1, 0, none⟩), Value.int .i64 (pre.length : Int), Value.pointer (some ⟨Bx, 0, none⟩), Value.pointer (some ⟨s7, 0, none⟩), Value.int .i64 0, Value.pointer (some ⟨n9, 0, none⟩), u 15, undef, undef, Value.int .i64 d, Value.int .i64 (cn : Int), Value.int .i64 d, Value.func (Fn.func 34) #[] #[Value.pointer (some ⟨n0 + 1 + 1 + 1 + 1, 0, none⟩)], Value.func (Fn.func 34) #[] #[Value.pointer (some ⟨n0 + 1 + 1 + 1 + 1, 0, none⟩)], Value.bool false, Value.int .i64 0, Value.bool true, u 26, u 27, Value.func (Fn.func 34) #[] #[Value.pointer (some ⟨n0 + 1 + 1 + 1 + 1, 0, none⟩)], Value.int .i64 (pre.length : Int), Value.agg #[Value.string q.f0, Value.string q.f1], Value.tuple #[Value.agg #[Value.string q.f0, Value.string q.f1], Value.int .i64 0], Value.int .i64 d, Value.int .i64 (pre.length : Int), Value.tuple #[Value.agg #[Value.string q.f0, Value.string q.f1], Value.int .i64 0], Value.agg #[Value.string q.f0, Value.string q.f1], Value.int .i64 0, Value.int .i64 (pre.length : Int), Value.int .i64 (pre.length : Int), Value.bool false, Value.bool false, Value.int .i64 0, Value.bool false, Value.bool false, Value.bool false, Value.pointer (some ⟨Bx, 0, none⟩), Value.string q.f0, Value.pointer (some ⟨s7, 0, none⟩), Value.string q.f0, Value.bool false, Value.bool false, Value.bool false, Value.pointer (some ⟨Bx, 1, none⟩), Value.string q.f1, Value.pointer (some ⟨s7, 1, none⟩), Value.string q.f1, Value.bool false, Value.bool false, Value.int .i64 0, Value.bool true, Value.bool true, Value.int .i64 (pre.length : Int), Value.int .i64 (pre.length : Int), Value.bool true, Value.bool true, Value.func (Fn.func 34) #[] #[Value.pointer (some ⟨n0 + 1 + 1 + 1 + 1, 0, none⟩)], .int .i64 (x2.1 : Int), .agg #[.string (bk d x2.1).f0, .string (bk d x2.1).f1], u 68, u 69, u 70, u 71, u 72, u 73, u 74, u 75, u 76, u 77, u 78, u 79, u 80, u 81, u 82, u 83, u 84, u 85, u 86, u 87, u 88, u 89, u 90, u 91, u 92, u 93, u 94, u 95, u 96, u 97, u 98, u 99, u 100, u 101, u 102, u 103, u 104, u 105, u 106, u 107, u 108, undef, undef, undef, undef, undef, undef, undef, undef, undef, undef, undef], defers := [] })
                (fun _ _ _ _ _ _ hs _ _ => hs)
                ?assign2 ?body2 ?done2 ?stop2
              case assign2 =>
                rintro l2 pre2 x2 Y K hI hK
                simp only [encB, fB]
                gi_wp2
                exact hK _ _ (KeepsFrom.refl _ _) (KpB.below (Below.refl _ _) (Nat.le_trans (by omega) hI.2.size)) hI rfl
              case body2 =>
                rintro l2 pre2 x2 a' Y hlY - ⟨i9, bY⟩ rfl hlt2
                have j9 := i9.cell
                have jf9 := i9.frozen
                have hlt3 : pre2.length < 4096 := Nat.lt_of_lt_of_le hlt2 (cntZ_le d)
                have J9 := Lib.hid (And.intro i9 bY)
                clear i9 bY
                gi_wp2_with (fail)
                refine ⟨(KeepsOthers.setCell _ _ _).from _, ⟨(Below.refl n9 Y).setCell (p := ⟨n9, 0, none⟩) (by simp) _, fun v hv => (((Below.refl n9 Y).setCell (p := ⟨n9, 0, none⟩) (by simp) _).cell (p := ⟨n0 + 1 + 1 + 1 + 1, 0, none⟩) (by simp; omega)).trans hv⟩, ?_⟩
                dsimp only
                rw [List.length_append]
                exact ⟨J9.out.1.set _, J9.out.2.setCell (p := ⟨n9, 0, none⟩) (by simp) _⟩
              case stop2 =>
                rintro c pre2 Y _ h
                exact h.elim
              case done2 =>
                rintro ys Y hS ⟨i9, bY⟩
                have hlen2 : ys.length = cn := by rw [(fst_bkL hS).1, hcn.out]
                rw [hlen2] at i9
                have j9 := i9.cell
                have bb9 : Below n9 W9 Y := I10.out.2.1.trans bY
                rw [hn9.out] at bb9
                have jn : Y.cell? ⟨n0 + 1 + 1 + 1, 0, none⟩ = some (.int .i64 (cn : Int)) := (bb9.cell (p := ⟨n0 + 1 + 1 + 1, 0, none⟩) (by simp; omega)).trans KW9.out.2.2.2.2.1.cell
                have KY := Lib.hid bb9
                clear bb9 i9 bY hlen2 hS
                gi_wp2_with (fail)
                have g0 := box_below r9.out.1 KY.out r9.out.1.lt
                have g1 := box_below r9.out.2.1 KY.out r9.out.2.1.lt
                have g2 : Below sz W1 Y := r9.out.2.2.1.trans (KY.out.mono (by omega))
                have gk : KeepsFrom W1.heap.size W Y := (r9.out.2.2.2.1.trans (KeepsOthers.of_grownBy (grown_of_below KY.out) (fun j o e => by cases e))).from _
                have ge : (((pre ++ [x]).length : Nat) : Int) - 1 = (pre.length : Int) := by simp
                have gl : lastB (pre ++ [x]) = some (pre.length : Int) := by unfold lastB; rw [List.getLast?_concat, Option.map_some, ← hxn.out]
                rw [hrv.out] at g1
                rw [s1] at gk
                refine ⟨gk, ?_⟩
                dsimp only
                rw [ge]
                exact ⟨⟨⟨g0, g1⟩, by first | exact ⟨rfl, rfl, gl⟩ | exact ⟨rfl, gl⟩⟩, g2⟩
            · have hxv2 : ((pre.length : Int) == leave) = false := by simpa using hxv
              gi_wp2_with (fail)
              refine ⟨(r9.out.2.2.2.1.trans (KeepsOthers.setCell _ _ _)).from _, ⟨r9.out.2.2.2.2.setCell (p := ⟨sz, 0, none⟩) (by simp) _, fun v hv => ((r9.out.2.2.2.2.setCell (p := ⟨sz, 0, none⟩) (by simp) _).cell (p := ⟨n0 + 1 + 1 + 1 + 1, 0, none⟩) (by simp; omega)).trans hv⟩, ?_⟩
              dsimp only
              rw [← hrv.out, List.length_append]
              have g0 := r9.out.1.set (.int .i64 ((pre.length : Int) + 1))
              have g1 := r9.out.2.1.other (B' := sz) (by omega) (.int .i64 ((pre.length : Int) + 1))
              have g2 := r9.out.2.2.1.setCell (p := ⟨sz, 0, none⟩) (by simp) (.int .i64 ((pre.length : Int) + 1))
              exact ⟨⟨⟨g0, by rw [hrv.out] at g1 ⊢; exact g1⟩, by first | exact trivial | (intro _ y hy; rcases List.mem_append.1 hy with hy | hy; exact BB.out.2.2.2 (by first | rfl | trivial) y hy; rw [List.mem_singleton.1 hy, ← hxn.out]; exact hxv) | (intro y hy; rcases List.mem_append.1 hy with hy | hy; exact BB.out.2.2.2 (by first | rfl | trivial) y hy; rw [List.mem_singleton.1 hy, ← hxn.out]; exact hxv)⟩, g2⟩
          · have hk1 : k = 1 := by omega
            subst hk1
            gi_wp2_with (fail)
            refine ⟨(r9.out.2.2.2.1.trans (KeepsOthers.setCell _ _ _)).from _, ⟨r9.out.2.2.2.2.setCell (p := ⟨sz, 0, none⟩) (by simp) _, fun v hv => ((r9.out.2.2.2.2.setCell (p := ⟨sz, 0, none⟩) (by simp) _).cell (p := ⟨n0 + 1 + 1 + 1 + 1, 0, none⟩) (by simp; omega)).trans hv⟩, ?_⟩
            dsimp only
            rw [← hrv.out, List.length_append]
            have g0 := r9.out.1.set (.int .i64 ((pre.length : Int) + 1))
            have g1 := r9.out.2.1.other (B' := sz) (by omega) (.int .i64 ((pre.length : Int) + 1))
            have g2 := r9.out.2.2.1.setCell (p := ⟨sz, 0, none⟩) (by simp) (.int .i64 ((pre.length : Int) + 1))
            first
              | exact ⟨⟨g0, g1⟩, g2⟩
              | exact ⟨⟨⟨g0, g1⟩, by first | exact trivial | (intro h; cases h)⟩, g2⟩
        · have hxp' : (xn == pre.length) = false := by simpa using hxp
          have hxp2 : ((xn : Int) == (pre.length : Int)) = false := by simp; omega
          gi_upto_region 16 with (fail)
          obtain ⟨rv, hrv⟩ : ∃ rv, RowKit.Hid (rv = rtB (pre ++ [x])) := ⟨_, Lib.hid rfl⟩
          obtain ⟨W9, hW9⟩ : ∃ W9, W8.setCell ⟨sz + 1, 0, none⟩ (.bool false) = W9 := ⟨_, rfl⟩
          have rE : rv = false := by rw [hrv.out, rtB_snoc, ← hxn.out]; simp [hxp]
          have r9 : RowKit.Hid (Boxed W9 sz 3 (.int .i64 (pre.length : Int)) ∧ Boxed W9 (sz + 1) 4 (.bool rv) ∧ Below sz W1 W9 ∧ KeepsOthers W W9 ∧ Below sz W W9) := Lib.hid (by
            rw [← hW9, rE]
            exact ⟨K8.out.2.1.other (by omega) _, K8.out.2.2.1.set _, K8.out.2.2.2.1.setCell (p := ⟨sz + 1, 0, none⟩) (by simp) _, (KeepsOthers.of_grownBy (grown_of_below K8.out.1) (fun j o e => by cases e)).trans (KeepsOthers.setCell _ _ _), (K8.out.1.mono (by omega)).setCell (p := ⟨sz + 1, 0, none⟩) (by simp) _⟩)
          rw [hW9]
          clear hW9 rE e8 e9 f9 v0 v1 y0 y1 cB8 cl8 cn8 ca8 hxp' hxp2
          have e9' := r9.out.1.cell
          have t9' := r9.out.2.1.cell
          have ft9 := r9.out.2.1.frozen
          have fe9 := r9.out.1.frozen
          have bB9 := box_below HR1.out.1 r9.out.2.2.1 hBsz
          have cB9 := bB9.cell
          have BW9 := B1.out.below (r9.out.2.2.1.mono (by omega))
          have cl9 : W9.cell? ⟨n0 + 1, 0, none⟩ = some (.int .i64 leave) := BW9.2.1.cell
          have cn9 : W9.cell? ⟨n0 + 1 + 1 + 1, 0, none⟩ = some (.int .i64 (cn : Int)) := BW9.2.2.2.1.cell
          have ca9 : W9.cell? ⟨n0 + 1 + 1 + 1 + 1 + 1, 0, none⟩ = some (.func (.func 34) #[] #[.pointer (some ⟨n0 + 1 + 1 + 1 + 1, 0, none⟩)]) := BW9.2.2.2.2.2.cell
          have hi0 : cn ≤ 4096 := by rw [hcn.out]; exact cntZ_le d
          have hi1 : (pre.length : Int) < (cn : Int) := by omega
          have hi2 : (cn : Int) ≤ 4096 := by omega
          have hi3 : ¬ ((pre.length : Int) + 1 > (cn : Int)) := by omega
          have hi4 : decide ((cn : Int) < (pre.length : Int) + 1) = false := by simp; omega
          have L9 : RowKit.Hid (W9.heap[l]? = some (.loop rr)) := Lib.hid (r9.out.2.2.2.1.same l _ LL.out.2 rfl)
          have KW9 := Lib.hid (And.intro bB9 BW9)
          have hs9 : sz + 2 ≤ W9.heap.size := by have := r9.out.2.2.2.1.size; omega
          clear bB9 BW9
          by_cases hk0 : k = 0
          · subst hk0
            by_cases hxv : (xn : Int) = leave
            · obtain rfl : leave = (xn : Int) := hxv.symm
              gi_upto_region 18 with (fail)
              obtain ⟨W10, hW10⟩ : ∃ W10, W9.alloc (.cells #[.int .i64 0] 3) = W10 := ⟨_, rfl⟩
              obtain ⟨n9, hn9⟩ : ∃ n9, RowKit.Hid (n9 = W9.heap.size) := ⟨_, Lib.hid rfl⟩
              have i10 : Boxed W10 n9 3 (.int .i64 0) := by rw [← hW10, hn9.out]; exact Boxed.new W9 3 _
              have b10 : Below n9 W9 W10 := by rw [← hW10, hn9.out]; exact (Below.refl _ _).alloc (Nat.le_refl _) _
              have s10 : W10.heap.size = n9 + 1 := by rw [← hW10, hn9.out]; simp
              have hn9b : sz + 2 ≤ n9 := by rw [hn9.out]; exact hs9
              rw [hW10, ← hn9.out]
              clear hW10
              rw [hn9.out] at b10
              have ca10 : W10.cell? ⟨n0 + 1 + 1 + 1 + 1 + 1, 0, none⟩ = some (.func (.func 34) #[] #[.pointer (some ⟨n0 + 1 + 1 + 1 + 1, 0, none⟩)]) := (b10.cell (p := ⟨n0 + 1 + 1 + 1 + 1 + 1, 0, none⟩) (by simp; omega)).trans ca9
              have cd10 : W10.cell? ⟨n0 + 1 + 1 + 1 + 1, 0, none⟩ = some (.int .i64 d) := (b10.cell (p := ⟨n0 + 1 + 1 + 1 + 1, 0, none⟩) (by simp; omega)).trans KW9.out.2.2.2.2.2.1.cell
              have cn10 : W10.cell? ⟨n0 + 1 + 1 + 1, 0, none⟩ = some (.int .i64 (cn : Int)) := (b10.cell (p := ⟨n0 + 1 + 1 + 1, 0, none⟩) (by simp; omega)).trans cn9
              have l10 : W10.heap[l]? = some (.loop rr) := (b10.block l (Array.getElem?_eq_some_iff.1 L9.out).1).trans L9.out
              rw [← hn9.out] at b10
              have I10 := Lib.hid (And.intro i10 (And.intro b10 l10))
              clear e9' t9' ft9 fe9 cB9 cl9 cn9 ca9 i10 l10
              gi_wp2_with (fail)
              refine wpIn_rangeFunc_ownN (F := Fence.wide.inRound l) (l₀ := l) (r₀ := rr) rfl I10.out.2.2 (by omega) (gf := 34) (lb := #[.pointer (some ⟨n0 + 1 + 1 + 1 + 1, 0, none⟩)]) rfl trivial (enters_of Tryd.func34 (by kernel_rfl) rfl)
                (SeqStopsK.inRound l (all_stopsB 11 (by omega) (n0 + 1 + 1 + 1 + 1) n9 d W10 (by omega) cd10)) (fun h k => KpB.trans h k) (fun W l o o' hl ho hc hw => KpB.put (w := W10) (by omega) W l o o' hl ho hc hw) (Below.refl _ _) (fun _ => rfl)
                (fun pre2 Y => Boxed Y n9 3 (.int .i64 (pre2.length : Int)) ∧ Below n9 W10 Y)
                (fun _ _ _ => False)
                (OwnFrom.and (Own.from (boxed_own n9 3 (fun pre2 : List (Bk d) => Value.int .i64 (pre2.length : Int))) _) (ownFrom_below (by omega) (by omega)))
                (fun _ _ _ _ _ hs _ _ => hs) ⟨I10.out.1, Below.refl _ _⟩
                (fun x2 a' _ => a' = { tmps := #[Value.int .i64 d, Value.int .i64 (xn : Int), Value.pointer (some ⟨n0, 0, none⟩), Value.pointer (some ⟨n0 + 1, 0, none⟩), Value.pointer (some ⟨n0 + 1 + 1, 0, none⟩), Value.pointer (some ⟨n0 + 1 + 1 + 1, 0, none⟩), Value.pointer (some ⟨n0 + 1 + 1 + 1 + 1 + 1, 0, none⟩), Value.pointer (some ⟨B, 0, none⟩), Value.pointer (some ⟨sz, 0, none⟩), Value.pointer (some ⟨sz + 1, 0, none⟩), Value.int .i64 (xn : Int), Value.pointer (some ⟨Bx, 0, none⟩), Value.pointer (some ⟨s7, 0, none⟩), Value.int .i64 0, Value.pointer (some ⟨n9, 0, none⟩), u 15, undef, undef, Value.int .i64 d, Value.int .i64 (cn : Int), Value.int .i64 d, Value.func (Fn.func 34) #[] #[Value.pointer (some ⟨n0 + 1 + 1 + 1 + 1, 0, none⟩)], Value.func (Fn.func 34) #[] #[Value.pointer (some ⟨n0 + 1 + 1 + 1 + 1, 0, none⟩)], Value.bool false, Value.int .i64 0, Value.bool true, u 26, u 27, Value.func (Fn.func 34) #[] #[Value.pointer (some ⟨n0 + 1 + 1 + 1 + 1, 0, none⟩)], Value.int .i64 (xn : Int), Value.agg #[Value.string q.f0, Value.string q.f1], Value.tuple #[Value.agg #[Value.string q.f0, Value.string q.f1], Value.int .i64 0], Value.int .i64 d, Value.int .i64 (xn : Int), Value.tuple #[Value.agg #[Value.string q.f0, Value.string q.f1], Value.int .i64 0], Value.agg #[Value.string q.f0, Value.string q.f1], Value.int .i64 0, Value.int .i64 (xn : Int), Value.int .i64 (pre.length : Int), Value.bool ((xn : Int) != (pre.length : Int)), Value.bool ((xn : Int) != (pre.length : Int)), undef, undef, Value.bool true, Value.bool true, undef, undef, undef, undef, undef, Value.bool true, Value.bool true, undef, undef, undef, undef, undef, Value.bool true, Value.int .i64 0, Value.bool true, Value.bool true, Value.int .i64 (xn : Int), Value.int .i64 (xn : Int), Value.bool true, Value.bool true, Value.func (Fn.func 34) #[] #[Value.pointer (some ⟨n0 + 1 + 1 + 1 + 1, 0, none⟩)], .int .i64 (x2.1 : Int), .agg #[.string (bk d x2.1).f0, .string (bk d x2.1).f1], u 68, u 69, u 70, u 71, u 72, u 73, u 74, u 75, u 76, u 77, u 78, u 79, u 80, u 81, u 82, u 83, u 84, u 85, u 86, u 87, u 88, u 89, u 90, u 91, u 92, u 93, u 94, u 95, u 96, u 97, u 98, u 99, u 100, u 101, u 102, u 103, u 104, u 105, u 106, u 107, u 108, undef, undef, undef, undef, undef, undef, undef, undef, undef, undef, undef], defers := [] })
                (fun _ _ _ _ _ _ hs _ _ => hs)
                ?assign2 ?body2 ?done2 ?stop2
              case assign2 =>
                rintro l2 pre2 x2 Y K hI hK
                simp only [encB, fB]
                gi_wp2
                exact hK _ _ (KeepsFrom.refl _ _) (KpB.below (Below.refl _ _) (Nat.le_trans (by omega) hI.2.size)) hI rfl
              case body2 =>
                rintro l2 pre2 x2 a' Y hlY - ⟨i9, bY⟩ rfl hlt2
                have j9 := i9.cell
                have jf9 := i9.frozen
                have hlt3 : pre2.length < 4096 := Nat.lt_of_lt_of_le hlt2 (cntZ_le d)
                have J9 := Lib.hid (And.intro i9 bY)
                clear i9 bY
                gi_wp2_with (fail)
                refine ⟨(KeepsOthers.setCell _ _ _).from _, ⟨(Below.refl n9 Y).setCell (p := ⟨n9, 0, none⟩) (by simp) _, fun v hv => (((Below.refl n9 Y).setCell (p := ⟨n9, 0, none⟩) (by simp) _).cell (p := ⟨n0 + 1 + 1 + 1 + 1, 0, none⟩) (by simp; omega)).trans hv⟩, ?_⟩
                dsimp only
                rw [List.length_append]
                exact ⟨J9.out.1.set _, J9.out.2.setCell (p := ⟨n9, 0, none⟩) (by simp) _⟩
              case stop2 =>
                rintro c pre2 Y _ h
                exact h.elim
              case done2 =>
                rintro ys Y hS ⟨i9, bY⟩
                have hlen2 : ys.length = cn := by rw [(fst_bkL hS).1, hcn.out]
                rw [hlen2] at i9
                have j9 := i9.cell
                have bb9 : Below n9 W9 Y := I10.out.2.1.trans bY
                rw [hn9.out] at bb9
                have jn : Y.cell? ⟨n0 + 1 + 1 + 1, 0, none⟩ = some (.int .i64 (cn : Int)) := (bb9.cell (p := ⟨n0 + 1 + 1 + 1, 0, none⟩) (by simp; omega)).trans KW9.out.2.2.2.2.1.cell
                have KY := Lib.hid bb9
                clear bb9 i9 bY hlen2 hS
                gi_wp2_with (fail)
                have g0 := box_below r9.out.1 KY.out r9.out.1.lt
                have g1 := box_below r9.out.2.1 KY.out r9.out.2.1.lt
                have g2 : Below sz W1 Y := r9.out.2.2.1.trans (KY.out.mono (by omega))
                have gk : KeepsFrom W1.heap.size W Y := (r9.out.2.2.2.1.trans (KeepsOthers.of_grownBy (grown_of_below KY.out) (fun j o e => by cases e))).from _
                have ge : (((pre ++ [x]).length : Nat) : Int) - 1 = (pre.length : Int) := by simp
                have gl : lastB (pre ++ [x]) = some (xn : Int) := by unfold lastB; rw [List.getLast?_concat, Option.map_some, ← hxn.out]
                rw [hrv.out] at g1
                rw [s1] at gk
                refine ⟨gk, ?_⟩
                dsimp only
                rw [ge]
                exact ⟨⟨⟨g0, g1⟩, by first | exact ⟨rfl, rfl, gl⟩ | exact ⟨rfl, gl⟩⟩, g2⟩
            · have hxv2 : ((xn : Int) == leave) = false := by simpa using hxv
              gi_wp2_with (fail)
              refine ⟨(r9.out.2.2.2.1.trans (KeepsOthers.setCell _ _ _)).from _, ⟨r9.out.2.2.2.2.setCell (p := ⟨sz, 0, none⟩) (by simp) _, fun v hv => ((r9.out.2.2.2.2.setCell (p := ⟨sz, 0, none⟩) (by simp) _).cell (p := ⟨n0 + 1 + 1 + 1 + 1, 0, none⟩) (by simp; omega)).trans hv⟩, ?_⟩
              dsimp only
              rw [← hrv.out, List.length_append]
              have g0 := r9.out.1.set (.int .i64 ((pre.length : Int) + 1))
              have g1 := r9.out.2.1.other (B' := sz) (by omega) (.int .i64 ((pre.length : Int) + 1))
              have g2 := r9.out.2.2.1.setCell (p := ⟨sz, 0, none⟩) (by simp) (.int .i64 ((pre.length : Int) + 1))
              exact ⟨⟨⟨g0, by rw [hrv.out] at g1 ⊢; exact g1⟩, by first | exact trivial | (intro _ y hy; rcases List.mem_append.1 hy with hy | hy; exact BB.out.2.2.2 (by first | rfl | trivial) y hy; rw [List.mem_singleton.1 hy, ← hxn.out]; exact hxv) | (intro y hy; rcases List.mem_append.1 hy with hy | hy; exact BB.out.2.2.2 (by first | rfl | trivial) y hy; rw [List.mem_singleton.1 hy, ← hxn.out]; exact hxv)⟩, g2⟩
          · have hk1 : k = 1 := by omega
            subst hk1
            gi_wp2_with (fail)
            refine ⟨(r9.out.2.2.2.1.trans (KeepsOthers.setCell _ _ _)).from _, ⟨r9.out.2.2.2.2.setCell (p := ⟨sz, 0, none⟩) (by simp) _, fun v hv => ((r9.out.2.2.2.2.setCell (p := ⟨sz, 0, none⟩) (by simp) _).cell (p := ⟨n0 + 1 + 1 + 1 + 1, 0, none⟩) (by simp; omega)).trans hv⟩, ?_⟩
            dsimp only
            rw [← hrv.out, List.length_append]
            have g0 := r9.out.1.set (.int .i64 ((pre.length : Int) + 1))
            have g1 := r9.out.2.1.other (B' := sz) (by omega) (.int .i64 ((pre.length : Int) + 1))
            have g2 := r9.out.2.2.1.setCell (p := ⟨sz, 0, none⟩) (by simp) (.int .i64 ((pre.length : Int) + 1))
            first
              | exact ⟨⟨g0, g1⟩, g2⟩
              | exact ⟨⟨⟨g0, g1⟩, by first | exact trivial | (intro h; cases h)⟩, g2⟩
      case done =>
        rintro D xs W hD hS ⟨⟨⟨b8, b9⟩, hnl⟩, hBW⟩ hK
        obtain ⟨x1, x2⟩ := fst_bkL hS
        have hlen : xs.length = cn := x1.trans hcn.out.symm
        have hrt : rtB xs = true := rtB_bkL hS
        rw [hlen] at b8
        rw [hrt] at b9
        have hBsz : B < sz := by rw [hsz1.out]; exact HR.out.1.lt
        have BB := box_below HR1.out.1 hBW hBsz
        have BW2 := Lib.hid (B1.out.below (hBW.mono (by omega)))
        have c7 := BB.cell
        have c8 := b8.cell
        have c9 := b9.cell
        have c1' : W.cell? ⟨n0 + 1, 0, none⟩ = some (.int .i64 leave) := BW2.out.2.1.cell
        have c3' : W.cell? ⟨n0 + 1 + 1 + 1, 0, none⟩ = some (.int .i64 (cn : Int)) := BW2.out.2.2.2.1.cell
        have ltD : D < W.heap.size := (Array.getElem?_eq_some_iff.1 hK).1
        have hWs := hBW.size
        have bF : Below (n0 + 6) W6 (W.alloc (.cells #[.int .i64 ((k + 1 : Nat) : Int)] 3)) := (HR1.out.2.trans (hBW.mono (by omega))).alloc (by omega) _
        by_cases hk0 : k = 0
        · subst hk0
          obtain rfl : ds = [] := by rcases hds with ⟨-, h⟩ | ⟨h, -⟩ | ⟨h, -⟩; exact h; exact absurd h (by decide); exact absurd h (by decide)
          have hnot : ¬ (leave ≥ 0 ∧ leave < (cn : Int)) := by
            rintro ⟨g1, g2⟩
            have hm : leave.toNat ∈ xs.map (fun x => x.1) := by rw [x2, ← hcn.out]; exact List.mem_range.2 (by omega)
            obtain ⟨y, hy, hy2⟩ := List.mem_map.1 hm
            exact hnl rfl y hy (by rw [hy2]; omega)
          by_cases hl0 : leave ≥ 0
          · have hl1 : ¬ (leave < (cn : Int)) := fun h => hnot ⟨hl0, h⟩
            gi_wp2_with (fail)
            refine ⟨⟨_, W.heap.size, 1, rfl, .inr (.inl ⟨rfl, D, by omega, rfl, (Below.heap_alloc W _ D ltD).trans hK⟩), by omega, by omega, Boxed.new W 3 _, bF⟩, ?_⟩
            have m1 := rndM_box (W := W.alloc (.cells #[.int .i64 ((1 : Nat) : Int)] 3)) (k := 1) (Boxed.new W 3 _)
            have m2 := rndM_box HR.out.1
            rw [m2]
            exact Nat.lt_of_le_of_lt (Nat.le_of_eq (congrArg (2 - ·) m1)) (by decide)
          · gi_wp2_with (fail)
            refine ⟨⟨_, W.heap.size, 1, rfl, .inr (.inl ⟨rfl, D, by omega, rfl, (Below.heap_alloc W _ D ltD).trans hK⟩), by omega, by omega, Boxed.new W 3 _, bF⟩, ?_⟩
            have m1 := rndM_box (W := W.alloc (.cells #[.int .i64 ((1 : Nat) : Int)] 3)) (k := 1) (Boxed.new W 3 _)
            have m2 := rndM_box HR.out.1
            rw [m2]
            exact Nat.lt_of_le_of_lt (Nat.le_of_eq (congrArg (2 - ·) m1)) (by decide)
        · have hk1 : k = 1 := by omega
          subst hk1
          rcases hds with ⟨h, -⟩ | ⟨-, D1, m1, rfl, h1⟩ | ⟨h, -⟩
          · exact absurd h (by decide)
          · have g1 : D1 < sz := by rw [hsz1.out]; exact (Array.getElem?_eq_some_iff.1 h1).1
            have h1W : W.heap[D1]? = some (.deferred (some [])) := (hBW.block D1 g1).trans ((BB1.out.block D1 (by rw [← hsz1.out]; exact g1)).trans h1)
            gi_wp2_with (fail)
            refine ⟨⟨_, W.heap.size, 2, rfl, .inr (.inr ⟨rfl, D1, D, ⟨m1, by omega, by omega⟩, rfl, (Below.heap_alloc W _ D1 (by omega)).trans h1W, (Below.heap_alloc W _ D ltD).trans hK⟩), by omega, by omega, Boxed.new W 3 _, bF⟩, ?_⟩
            have q1 := rndM_box (W := W.alloc (.cells #[.int .i64 ((2 : Nat) : Int)] 3)) (k := 2) (Boxed.new W 3 _)
            have q2 := rndM_box HR.out.1
            have q3 : 2 - rndM (.pointer (some ⟨W.heap.size, 0, none⟩)) (W.alloc (.cells #[.int .i64 ((2 : Nat) : Int)] 3)) < 2 - rndM (.pointer (some ⟨B, 0, none⟩)) wr := by rw [q1, q2]; decide
            exact q3
          · exact absurd h (by decide)
      case stop =>
        rintro D c pre W hD ⟨kk, hkk, hS⟩ ⟨⟨⟨b8, b9⟩, rfl, rfl, hlast⟩, hBW⟩ hK
        obtain ⟨v1, v2, v3⟩ := last_bkL hS hlast
        have hrt : rtB pre = true := rtB_bkL hS
        have hl0 : leave ≥ 0 := v2
        have hl1 : leave < (cn : Int) := by rw [hcn.out]; omega
        rw [hrt] at b9
        rw [v1] at b8
        obtain rfl : ds = [] := by rcases hds with ⟨-, h⟩ | ⟨h, -⟩ | ⟨h, -⟩; exact h; exact absurd h (by decide); exact absurd h (by decide)
        have hBsz : B < sz := by rw [hsz1.out]; exact HR.out.1.lt
        have BB := box_below HR1.out.1 hBW hBsz
        have BW2 := Lib.hid (B1.out.below (hBW.mono (by omega)))
        have c7 := BB.cell
        have c8 := b8.cell
        have c9 := b9.cell
        have c1' : W.cell? ⟨n0 + 1, 0, none⟩ = some (.int .i64 leave) := BW2.out.2.1.cell
        have c3' : W.cell? ⟨n0 + 1 + 1 + 1, 0, none⟩ = some (.int .i64 (cn : Int)) := BW2.out.2.2.2.1.cell
        have ltD : D < W.heap.size := (Array.getElem?_eq_some_iff.1 hK).1
        have hWs := hBW.size
        have bF : Below (n0 + 6) W6 (W.alloc (.cells #[.int .i64 ((0 + 1 : Nat) : Int)] 3)) := (HR1.out.2.trans (hBW.mono (by omega))).alloc (by omega) _
        clear v1 v2 v3 hlast hkk hS
        gi_wp2_with (fail)
        refine ⟨⟨_, W.heap.size, 1, rfl, .inr (.inl ⟨rfl, D, by omega, rfl, (Below.heap_alloc W _ D ltD).trans hK⟩), by omega, by omega, Boxed.new W 3 _, bF⟩, ?_⟩
        have m1 := rndM_box (W := W.alloc (.cells #[.int .i64 ((1 : Nat) : Int)] 3)) (k := 1) (Boxed.new W 3 _)
        have m2 := rndM_box HR.out.1
        have q3 : 2 - rndM (.pointer (some ⟨W.heap.size, 0, none⟩)) (W.alloc (.cells #[.int .i64 ((1 : Nat) : Int)] 3)) < 2 - rndM (.pointer (some ⟨B, 0, none⟩)) wr := by rw [m1, m2]; decide
        exact q3
    · obtain rfl : k = 2 := by omega
      have hof := fun W => span_Of.calls 6 1 1 (mkB (lowL 1 1)) (mkB (hiL 1 1)) 0 W (of_at 1 1 (.inl rfl) (by decide) 0)
      have HO := Lib.hid hof
      have e16 : mkB (lowL 1 1) = ⟨#[16]⟩ := by decide +kernel
      rw [e16] at HO
      have HR := Lib.hid (And.intro bB hb)
      clear hof bB hb
      gi_upto_region 31 with (first
        | (refine ⟨trivial, ?_⟩; gi_at_call 11; refine (callsIn_wide.2 (HO.out _)).mono ?_; rintro e w7 ⟨rfl, hb7⟩; have b7 := Lib.hid hb7; clear hb7))
      have g8 := heap_alloc_new w7 (.cells #[.string ⟨#[16]⟩, .string (mkB (hiL 1 1))] 27 (0, 0))
      have bb : Below wr.heap.size wr (w7.alloc (.cells #[.string ⟨#[16]⟩, .string (mkB (hiL 1 1))] 27)) := b7.out.alloc b7.out.size _
      obtain ⟨s7, hs7⟩ : ∃ s7, RowKit.Hid (s7 = w7.heap.size) := ⟨_, Lib.hid rfl⟩
      rw [← hs7.out] at g8 ⊢
      obtain ⟨W8, hW8⟩ : ∃ W8, w7.alloc (.cells #[.string ⟨#[16]⟩, .string (mkB (hiL 1 1))] 27) = W8 := ⟨_, rfl⟩
      rw [hW8] at g8 bb ⊢
      clear hW8
      have q2 := box_below BR.out.2.2.1 bb BR.out.2.2.1.lt
      have d2 : W8.cell? ⟨n0 + 1 + 1, 0, none⟩ = some (.bool false) := q2.cell
      have e2 : W8.frozen? ⟨n0 + 1 + 1, 0, none⟩ = false := q2.frozen
      have d8 : W8.cell? ⟨s7, 0, none⟩ = some (.string ⟨#[16]⟩) := cell_of_row W8 _ 0 _ _ _ g8
      have BW := Lib.hid (And.intro bb q2)
      clear c0 c1 c2 f2 c3 c5 cB fB bb q2 g8
      gi_wp2_with (fail)
      rcases hds with ⟨h, -⟩ | ⟨h, -⟩ | ⟨-, D1, D2, ⟨m1, m2, hne⟩, rfl, h1, h2⟩
      · exact absurd h (by decide)
      · exact absurd h (by decide)
      have l1 : D1 < wr.heap.size := (Array.getElem?_eq_some_iff.1 h1).1
      have l2 : D2 < wr.heap.size := (Array.getElem?_eq_some_iff.1 h2).1
      have n1 : D1 ≠ n0 + 1 + 1 := fun e => by rw [e] at h1; rw [show wr.heap[n0 + 1 + 1]? = _ from BR.out.2.2.1] at h1; cases h1
      have n2 : D2 ≠ n0 + 1 + 1 := fun e => by rw [e] at h2; rw [show wr.heap[n0 + 1 + 1]? = _ from BR.out.2.2.1] at h2; cases h2
      have k1 : (W8.setCell ⟨n0 + 1 + 1, 0, none⟩ (.bool true)).heap[D1]? = some (.deferred (some [])) := (Below.heap_setCell W8 ⟨n0 + 1 + 1, 0, none⟩ (.bool true) D1 n1).trans ((BW.out.1.block D1 l1).trans h1)
      have k2 : (W8.setCell ⟨n0 + 1 + 1, 0, none⟩ (.bool true)).heap[D2]? = some (.deferred (some [])) := (Below.heap_setCell W8 ⟨n0 + 1 + 1, 0, none⟩ (.bool true) D2 n2).trans ((BW.out.1.block D2 l2).trans h2)
      have q9 := BW.out.2.set (.bool true)
      have bw9 : Below n0 w (W8.setCell ⟨n0 + 1 + 1, 0, none⟩ (.bool true)) := (B6.out.1.trans ((HR.out.2.trans (BW.out.1.mono hsz2)).mono (by omega))).setCell (p := ⟨n0 + 1 + 1, 0, none⟩) (by simp; omega) _
      generalize W8.setCell ⟨n0 + 1 + 1, 0, none⟩ (.bool true) = W9 at k1 k2 q9 bw9 ⊢
      refine ⟨by simp, .inl ⟨_, _, rfl, run_takeDeferred k2, ?_⟩⟩
      have k1' : (W9.putObj D2 (.deferred none)).heap[D1]? = some (.deferred (some [])) := (World.putObj_heap_other (fun e => hne e.symm)).trans k1
      refine ⟨by simp, .inl ⟨_, _, rfl, run_takeDeferred k1', ?_⟩⟩
      refine ⟨_, results_bool _ _ (n0 + 1 + 1) true rfl ((q9.kept (grownBy_putObj' W9 D2 _) (by simp; omega)).kept (grownBy_putObj' _ D1 _) (by simp; omega)).cell, rfl, ?_⟩
      have x1 : Below n0 W9 (W9.putObj D2 (.deferred none)) := (Below.refl n0 W9).grown (grownBy_putObj' W9 D2 _) (by rw [hn0.out]; exact bw9.size) (fun k e => by cases e; omega)
      have x2 : Below n0 (W9.putObj D2 (.deferred none)) ((W9.putObj D2 (.deferred none)).putObj D1 (.deferred none)) := (Below.refl n0 _).grown (grownBy_putObj' _ D1 _) (by rw [World.putObj_size, hn0.out]; exact bw9.size) (fun k e => by cases e; omega)
      rw [← hn0.out]
      exact bw9.trans (x1.trans x2)
end
end Go.Proofs.YtmjmjjhfficilaaDoor.PSpanTouches

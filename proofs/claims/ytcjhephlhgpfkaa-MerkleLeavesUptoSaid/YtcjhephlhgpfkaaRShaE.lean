/- What is proved: the contract of the reference's (*Hasher).Write on a hasher that has taken nothing; the conditions stand in the theorem. -/
import Derived.Test.YtcjhephlhgpfkaaRShaB
import Derived.Test.YtcjhephlhgpfkaaShaE
import Derived.Deep.DeepCutAuto
import Derived.Deep.CutBlock
namespace Go.Proofs.Ytcjhephlhgpfkaa.Sha
open Go.RowKit Go.Proofs.YtcjhephlhgpfkaaW.PrintWords Go.Proofs.YtcjhephlhgpfkaaW.PrintLast
set_option linter.unusedVariables false
set_option linter.unusedSimpArgs false
/-- The reference hasher's cells. -/
def Hr (s : Nat → Int) (rest : Value) (n : Int) : Array Value := #[.int .u32 (s 0), .int .u32 (s 1), .int .u32 (s 2), .int .u32 (s 3), .int .u32 (s 4), .int .u32 (s 5), .int .u32 (s 6), .int .u32 (s 7), .int .i64 n, rest]
theorem set8_heapR {w : World} {H : Nat} {x y : Nat → Int} {v : Value} {n : Int} (h : w.heap[H]? = some (.cells (Hr x v n) 65 (0, 0))) : (set8 w H y).heap[H]? = some (.cells (Hr y v n) 65 (0, 0)) := by
  have h0 := heap_setCell_same _ H 0 _ 65 (.int .u32 (y 0)) h
  have h1 := heap_setCell_same _ H 1 _ 65 (.int .u32 (y 1)) h0
  have h2 := heap_setCell_same _ H 2 _ 65 (.int .u32 (y 2)) h1
  have h3 := heap_setCell_same _ H 3 _ 65 (.int .u32 (y 3)) h2
  have h4 := heap_setCell_same _ H 4 _ 65 (.int .u32 (y 4)) h3
  have h5 := heap_setCell_same _ H 5 _ 65 (.int .u32 (y 5)) h4
  have h6 := heap_setCell_same _ H 6 _ 65 (.int .u32 (y 6)) h5
  have h7 := heap_setCell_same _ H 7 _ 65 (.int .u32 (y 7)) h6
  unfold set8
  rw [h7]
  simp only [Hr, List.setIfInBounds_toArray, List.set_cons_zero, List.set_cons_succ]
def heldL (L : List Int) (i : Nat) : List Int := (L.take i).drop (64 * (i / 64))
theorem heldL_len (L : List Int) (i : Nat) (hi : i ≤ L.length) : (heldL L i).length = i - 64 * (i / 64) := by
  unfold heldL; rw [List.length_drop, List.length_take]; omega
theorem heldL_app (L : List Int) (i : Nat) (hi : i < L.length) : heldL L i ++ [L.getD i 0] = (L.take (i + 1)).drop (64 * (i / 64)) := by
  unfold heldL
  rw [List.take_add_one, List.getElem?_eq_getElem hi, List.drop_append_of_le_length (by rw [List.length_take]; omega)]
  simp [List.getD, List.getElem?_eq_getElem hi]
theorem own_drew {w : World} {base : Nat} {e : TypeId} {size n : Nat} {v : Value} {xs : List Value} (h : w.ownsRow base e size v n xs) : w.drew.ownsRow base e size v n xs := h
theorem cell_alloc_old (w : World) (o : Obj) (p : Addr) (h : p.block < w.heap.size) : (w.alloc o).cell? p = w.cell? p := ((Below.refl w.heap.size w).alloc (Nat.le_refl _) o).cell h
theorem step_append_num {P : Program} {ops : Array Oper} {o : Oper} {a : Act} {Q : Exit → Act → World → Prop} {K : Act → World → Prop} {w0 W : World} (base : Nat) (hw : Region.wanted o (yielded ops a.tmps) = true) (s x : Operand) (t e : TypeId) (k : IntKind) (bytes : Nat)
    (ho : o.op = .call { callee := .builtin .append, args := #[s, x], argTypes := #[t, t] })
    (ht : P.underlying t = some (.slice e)) (hinfo : (P.info? e).map (fun i => (i.zero, i.size, i.bytes)) = some (some (.int k 0), 1, bytes)) (hb0 : 0 < bytes)
    (v : Value) (xs : List Int) (y : Int) (hs : a.eval s = v) (hx : a.eval x = .slice (some ⟨W.heap.size, 0, none⟩) 1 1)
    (HO : W.ownsRow base e 1 v xs.length (nums k xs)) (HB : Below base w0 W) (hbase : base ≤ W.heap.size) (hl : (xs.length + 1) * bytes ≤ 140737488355328)
    (h : ∀ v1 w1, w1.ownsRow base e 1 v1 (xs ++ [y]).length (nums k (xs ++ [y])) → Below base w0 w1 → W.grownBy w1 v.ownBlock → (v1.ownBlock = v.ownBlock ∨ ∃ b, v1.ownBlock = some b ∧ W.heap.size ≤ b) → K (a.put o.dst v1) w1) :
    if Region.wanted o (yielded ops a.tmps) = true then Oper.wp P o a (W.alloc (.cells #[.int k y] e)) K Q else K (a.put o.dst undef) (W.alloc (.cells #[.int k y] e)) :=
  step_append_cells base hw s x t e (.int k 0) 1 bytes ho ht hinfo rfl (by omega) hb0 v xs.length (nums k xs) [.int k y] hs hx rfl (by intro u hu; simp at hu; subst hu; rfl) HO HB hbase hl
    fun v1 w1 hown hB hg hat => h v1 w1 (by simpa [nums] using hown) hB hg hat
def RWritePost (H : Nat) (s : Nat → Int) (L : List Int) (w : World) (e : Ending) (w' : World) : Prop :=
  ∃ v, e = .returned (.tuple #[]) ∧ w'.heap[H]? = some (.cells (Hr (stB L s (L.length / 64)) v L.length) 65 (0, 0)) ∧
    w'.ownsRow w.heap.size 5 1 v (L.drop (64 * (L.length / 64))).length (nums .u8 (L.drop (64 * (L.length / 64)))) ∧ w.grownBy w' (some H)
set_option maxRecDepth 100000 in
set_option maxHeartbeats 8000000 in
theorem rwrite_any (w : World) (H : Nat) (s : Nat → Int) (A : Option Addr) (c : Nat) (L : List Int) (hH : w.heap[H]? = some (.cells (Hr s (.slice none 0 0) 0) 65 (0, 0)))
    (hr : ReadsInt w .u8 A L.length L) (hA : ∀ ad, A = some ad → 0 < L.length → ad.block ≠ H) (hL : ∀ x ∈ L, 0 ≤ x ∧ x ≤ 255) (hlen : L.length ≤ 70368744177664) :
    Calls Try.prog 21 #[.pointer (some ⟨H, 0, none⟩), .slice A L.length c] w (RWritePost H s L w) := by
  have hltH : H < w.heap.size := by rcases Nat.lt_or_ge H w.heap.size with h | h; exact h; rw [Array.getElem?_eq_none h] at hH; cases hH
  go_enter Try.func21, Try.ntmps21
  go_upto_region 1 with (fail)
  go_loopw [4] (fun iv wr => ∃ (i : Nat) (v : Value), i ≤ L.length ∧ iv = .int .i64 i ∧ wr.heap[H]? = some (.cells (Hr (stB L s (i / 64)) v i) 65 (0, 0)) ∧ wr.ownsRow w.heap.size 5 1 v (heldL L i).length (nums .u8 (heldL L i)) ∧ w.grownBy wr (some H))
    (fun iv _ => L.length - (intOf iv).toNat)
  case atStart => exact ⟨0, .slice none 0 0, by omega, rfl, hH, own_nil w _ 5 1, gb_refl w _⟩
  case round =>
    obtain ⟨i, v, hi, rfl, gH, gO, gB⟩ := hrel
    have rr := reads_gb hr gB hA
    by_cases hlt : i < L.length
    · obtain ⟨ad, rfl, hcd0⟩ := rr.2.2 (by omega)
      obtain ⟨b, hb_⟩ : ∃ b, RowKit.Hid (b = L.getD i 0) := ⟨_, Lib.hid rfl⟩
      have cb : wr.cell? (ad.add i) = some (.int .u8 b) := by rw [hcd0 i hlt, hb_.out]
      have hltA : (ad.add i).block < wr.heap.size := World.block_lt_of_cell? wr _ cb
      have hltH' : H < wr.heap.size := Nat.lt_of_lt_of_le hltH gB.size
      have c9 : wr.cell? ⟨H, 9, none⟩ = some v := cell_of_row wr H 9 _ _ _ gH
      have l0 : (0 : Int) ≤ (i : Int) := by omega
      have u0 : (i : Int) < (L.length : Int) := by omega
      have G := Lib.hid (And.intro gH (And.intro gO gB))
      clear gH gO gB rr hcd0
      go_upto_region 3 with (fail)
      refine start_ (n := 14) (S := fun w' => w'.cell? ⟨H, 9, none⟩ = some v ∧ w'.cell? (ad.add i) = some (.int .u8 b)) (ds := [10, 13]) #[false, false, false, false, false, false, false, false, false, false, false, false, false, false] (by kernel_rfl) rfl rfl ⟨c9, cb⟩ (fun hHeld => ?_)
      refine pure_ (i := 0) (N := (some 11)) (v := ?_) (a' := ?_) #[true, false, false, false, false, false, false, false, false, false, false, false, false, false] rfl rfl (by kernel_rfl) (fun _ _ _ h => h) (Or.inl ⟨by rfl, ?_⟩) ?_ ?_
      rotate_left
      · intro w'
        go_simp
        with_reducible rfl
      rotate_left
      · simp only [Act.put, List.setIfInBounds_toArray, List.set_cons_zero, List.set_cons_succ, i64_w, i32_w]
        rfl
      refine pure_ (i := 1) (N := (some 12)) (v := ?_) (a' := ?_) #[true, true, false, false, false, false, false, false, false, false, false, false, false, false] rfl rfl (by kernel_rfl) (fun _ _ _ h => h) (Or.inl ⟨by rfl, ?_⟩) ?_ ?_
      rotate_left
      · intro w'
        go_simp
        with_reducible rfl
      rotate_left
      · simp only [Act.put, List.setIfInBounds_toArray, List.set_cons_zero, List.set_cons_succ, i64_w, i32_w]
        rfl
      refine pure_ (i := 2) (N := (some 13)) (v := ?_) (a' := ?_) #[true, true, true, false, false, false, false, false, false, false, false, false, false, false] rfl rfl (by kernel_rfl) (fun _ _ _ h => h) (Or.inl ⟨by rfl, ?_⟩) ?_ ?_
      rotate_left
      · intro w'
        go_simp
        with_reducible rfl
      rotate_left
      · simp only [Act.put, List.setIfInBounds_toArray, List.set_cons_zero, List.set_cons_succ, i64_w, i32_w]
        rfl
      refine pure_ (i := 3) (N := (some 14)) (v := ?_) (a' := ?_) #[true, true, true, true, false, false, false, false, false, false, false, false, false, false] rfl rfl (by kernel_rfl) (fun _ _ _ h => h) (Or.inl ⟨by rfl, ?_⟩) ?_ ?_
      rotate_left
      · intro w'
        go_simp
        with_reducible rfl
      rotate_left
      · simp only [Act.put, List.setIfInBounds_toArray, List.set_cons_zero, List.set_cons_succ, i64_w, i32_w]
        rfl
      refine pure_ (i := 5) (N := (some 16)) (v := ?_) (a' := ?_) #[true, true, true, true, false, true, false, false, false, false, false, false, false, false] rfl rfl (by kernel_rfl) (fun _ _ _ h => h) (Or.inl ⟨by rfl, ?_⟩) ?_ ?_
      rotate_left
      · intro w'
        go_simp
        with_reducible rfl
      rotate_left
      · simp only [Act.put, List.setIfInBounds_toArray, List.set_cons_zero, List.set_cons_succ, i64_w, i32_w]
        rfl
      refine pure_ (i := 6) (N := (some 17)) (v := ?_) (a' := ?_) #[true, true, true, true, false, true, true, false, false, false, false, false, false, false] rfl rfl (by kernel_rfl) (fun _ _ _ h => h) (Or.inl ⟨by rfl, ?_⟩) ?_ ?_
      rotate_left
      · intro w'
        go_simp
        with_reducible rfl
      rotate_left
      · simp only [Act.put, List.setIfInBounds_toArray, List.set_cons_zero, List.set_cons_succ, i64_w, i32_w]
        rfl
      refine pure_ (i := 7) (N := (some 18)) (v := ?_) (a' := ?_) #[true, true, true, true, false, true, true, true, false, false, false, false, false, false] rfl rfl (by kernel_rfl) (fun _ _ _ h => h) (Or.inl ⟨by rfl, ?_⟩) ?_ ?_
      rotate_left
      · intro w'
        go_simp
        with_reducible rfl
      rotate_left
      · simp only [Act.put, List.setIfInBounds_toArray, List.set_cons_zero, List.set_cons_succ, i64_w, i32_w]
        rfl
      refine take_ (i := 4) (N := (some 15)) (v := ?_) (a' := ?_) #[true, true, true, true, true, true, true, true, false, false, false, false, false, false] rfl rfl (by kernel_rfl) (fun _ _ _ h => h) (Or.inl ⟨by rfl, ?_⟩) hHeld ?_ ?_
      rotate_left
      · rintro w' ⟨s0, s1⟩
        go_simp
        with_reducible rfl
      rotate_left
      · simp only [Act.put, List.setIfInBounds_toArray, List.set_cons_zero, List.set_cons_succ, i64_w, i32_w]
        rfl
      refine take_ (i := 8) (N := (some 19)) (v := ?_) (a' := ?_) #[true, true, true, true, true, true, true, true, true, false, false, false, false, false] rfl rfl (by kernel_rfl) (fun _ _ _ h => h) (Or.inl ⟨by rfl, ?_⟩) hHeld ?_ ?_
      rotate_left
      · rintro w' ⟨s0, s1⟩
        go_simp
        with_reducible rfl
      rotate_left
      · simp only [Act.put, List.setIfInBounds_toArray, List.set_cons_zero, List.set_cons_succ, i64_w, i32_w]
        rfl
      refine one_ (i := 9) (N := (some 20)) #[true, true, true, true, true, true, true, true, true, true, false, false, false, false] rfl rfl (by kernel_rfl) (by decide) (fun K hK => ?_)
      refine value_ (v := .slice (some ⟨wr.drew.heap.size, 0, none⟩) 1 1) (w1 := wr.drew.alloc (.cells #[.int .u8 b] 5)) (by rfl) rfl (by go_simp) ?_
      refine hK.out _ _ ⟨(cell_alloc_old _ _ _ hltH').trans hHeld.1, (cell_alloc_old _ _ _ hltA).trans hHeld.2⟩ (fun _ => ?_)
      clear hK K
      refine norm_ (a' := ?_) ?_ ?_
      rotate_left
      · show Act.put _ (some 20) _ = _
        simp only [Act.put, List.setIfInBounds_toArray, List.set_cons_zero, List.set_cons_succ, i64_w, i32_w]
        rfl
      refine last_ (i := 10) (N := (some 21)) #[true, true, true, true, true, true, true, true, true, true, true, false, false, false] rfl rfl (by kernel_rfl) (by decide) (fun K hK => ?_)
      refine step_append_num (W := wr.drew) (w0 := wr.drew) w.heap.size (by rfl) (.tmp 15) (.tmp 20) 37 5 .u8 1 rfl Try.underlying37 info5 (by omega) v (heldL L i) b rfl rfl (own_drew G.out.2.1) (Below.refl _ _) G.out.2.2.size (by have := heldL_len L i (by omega); omega) ?_
      intro v1 w1 hown1 hb1 hg1 hat1
      refine hK.out _ _ ?_
      clear hK K
      refine norm_ (a' := ?_) ?_ ?_
      rotate_left
      · show Act.put _ (some 21) _ = _
        simp only [Act.put, List.setIfInBounds_toArray, List.set_cons_zero, List.set_cons_succ, i64_w, i32_w]
        rfl
      refine pure_ (i := 11) (N := (some 22)) (v := ?_) (a' := ?_) #[true, true, true, true, true, true, true, true, true, true, true, true, false, false] rfl rfl (by kernel_rfl) (fun _ _ _ h => h) (Or.inl ⟨by rfl, ?_⟩) ?_ ?_
      rotate_left
      · intro w'
        go_simp
        with_reducible rfl
      rotate_left
      · simp only [Act.put, List.setIfInBounds_toArray, List.set_cons_zero, List.set_cons_succ, i64_w, i32_w]
        rfl
      refine pure_ (i := 12) (N := (some 23)) (v := ?_) (a' := ?_) #[true, true, true, true, true, true, true, true, true, true, true, true, true, false] rfl rfl (by kernel_rfl) (fun _ _ _ h => h) (Or.inl ⟨by rfl, ?_⟩) ?_ ?_
      rotate_left
      · intro w'
        go_simp
        with_reducible rfl
      rotate_left
      · simp only [Act.put, List.setIfInBounds_toArray, List.set_cons_zero, List.set_cons_succ, i64_w, i32_w]
        rfl
      refine last_ (i := 13) (N := none) #[true, true, true, true, true, true, true, true, true, true, true, true, true, true] rfl rfl (by kernel_rfl) (by decide) (fun K hK => ?_)
      obtain ⟨A1, c1, e1, hc1, hr1, hA1⟩ := own_shape hown1
      subst e1
      have gh1 : w1.heap[H]? = some (.cells (Hr (stB L s (i / 64)) v i) 65 (0, 0)) := (hb1.block H hltH).trans G.out.1
      have q9 : w1.cell? ⟨H, 9, none⟩ = some v := cell_of_row w1 H 9 _ _ _ gh1
      have qf9 : w1.frozen? ⟨H, 9, none⟩ = false := frozen_of_row w1 H 9 _ _ gh1
      refine skip_ (w1 := w1.setCell ⟨H, 9, none⟩ (.slice A1 (heldL L i ++ [b]).length c1)) (by rfl) rfl ?hst ?_
      case hst => go_simp
      refine hK.out _ _ ?_
      clear hK K
      refine done_ (by kernel_rfl) ?_
      clear hHeld c9 cb
      have HAPP := Lib.hid (heldL_app L i hlt)
      have hm : (heldL L i ++ [b]).length = i + 1 - 64 * (i / 64) := by rw [List.length_append, heldL_len L i hi]; simp; omega
      refine abs3 (R := Exit.then _ _) ?_
      intro w2 hw2
      have g2 : w2.heap[H]? = some (.cells (Hr (stB L s (i / 64)) (.slice A1 (heldL L i ++ [b]).length c1) i) 65 (0, 0)) := by rw [hw2]; exact heap_setCell_same w1 H 9 _ 65 _ gh1
      have k2 : w.grownBy w2 (some H) := by rw [hw2]; exact gb_set (gb_below (gb_drew G.out.2.2) hb1 (Nat.le_refl _)) 9 _
      have o2 : w2.ownsRow w.heap.size 5 1 (.slice A1 (heldL L i ++ [b]).length c1) (heldL L i ++ [b]).length (nums .u8 (heldL L i ++ [b])) := by rw [hw2]; exact ownsRow_setCell_below hown1 (a := ⟨H, 9, none⟩) hltH _
      have c8 : w2.cell? ⟨H, 8, none⟩ = some (.int .i64 i) := cell_of_row w2 H 8 _ _ _ g2
      have f8 : w2.frozen? ⟨H, 8, none⟩ = false := frozen_of_row w2 H 8 _ _ g2
      have n1 : IntKind.i64.wrap ((i : Int) + 1) = (i : Int) + 1 := IntWalk.i64_in _ (by omega)
      have G2 := Lib.hid (And.intro g2 (And.intro k2 o2))
      clear g2 k2 o2 hw2 gh1 q9 qf9 hown1 hb1 hg1 hat1 hr1 G hltA hltH'
      go_upto_region 5 with (fail)
      refine abs_world ?_
      intro w3 hw3
      have g3 : w3.heap[H]? = some (.cells (Hr (stB L s (i / 64)) (.slice A1 (heldL L i ++ [b]).length c1) ((i : Int) + 1)) 65 (0, 0)) := by rw [hw3]; exact heap_setCell_same w2 H 8 _ 65 _ G2.out.1
      have k3 : w.grownBy w3 (some H) := by rw [hw3]; exact gb_set G2.out.2.1 8 _
      have o3 : w3.ownsRow w.heap.size 5 1 (.slice A1 (heldL L i ++ [b]).length c1) (heldL L i ++ [b]).length (nums .u8 (heldL L i ++ [b])) := by rw [hw3]; exact ownsRow_setCell_below G2.out.2.2 (a := ⟨H, 8, none⟩) hltH _
      have d9 : w3.cell? ⟨H, 9, none⟩ = some (.slice A1 (heldL L i ++ [b]).length c1) := cell_of_row w3 H 9 _ _ _ g3
      clear hw3 G2 c8 f8
      by_cases h64 : (heldL L i ++ [b]).length = 64
      · have hdiv : (i + 1) / 64 = i / 64 + 1 := by omega
        rw [h64] at d9 g3 o3 hc1
        obtain ⟨A2, c2, e2, -, r3, hA3⟩ := own_shape (by rw [← h64] at o3; exact o3)
        rw [h64] at r3
        injection e2 with e2a e2b e2c
        subst e2a
        subst e2c
        obtain ⟨ad', rfl, hcd0⟩ := r3.2.2 (by omega)
        obtain ⟨x, hx_⟩ : ∃ x, RowKit.Hid (x = stB L s (i / 64)) := ⟨_, Lib.hid rfl⟩
        rw [← hx_.out] at g3
        obtain ⟨Bk, hBk_⟩ : ∃ Bk : Nat → Int, RowKit.Hid (Bk = fun j => L.getD (64 * (i / 64) + j) 0) := ⟨_, Lib.hid rfl⟩
        have hcd : ∀ j, j < 64 → w3.cell? (ad'.add j) = some (.int .u8 (Bk j)) := by
          intro j hj
          rw [hcd0 j hj, hBk_.out, hb_.out, HAPP.out]
          have : 64 * (i / 64) + j < i + 1 := by omega
          simp [List.getD, List.getElem?_drop, List.getElem?_take, this]
        have hBd : ∀ j, 0 ≤ Bk j ∧ Bk j ≤ 255 := by
          intro j; rw [hBk_.out]; exact byte_bd hL _
        have hltd : ad'.block < w3.heap.size := World.block_lt_of_cell? w3 _ (by have := hcd 0 (by omega); exact this)
        have hltH3 : H < w3.heap.size := Nat.lt_of_lt_of_le hltH k3.size
        have d0 : w3.cell? ⟨H, 0, none⟩ = some (.int .u32 (x 0)) := cell_of_row w3 H 0 _ _ _ g3
        have d1 : w3.cell? ⟨H, 1, none⟩ = some (.int .u32 (x 1)) := cell_of_row w3 H 1 _ _ _ g3
        have d2 : w3.cell? ⟨H, 2, none⟩ = some (.int .u32 (x 2)) := cell_of_row w3 H 2 _ _ _ g3
        have d3 : w3.cell? ⟨H, 3, none⟩ = some (.int .u32 (x 3)) := cell_of_row w3 H 3 _ _ _ g3
        have d4 : w3.cell? ⟨H, 4, none⟩ = some (.int .u32 (x 4)) := cell_of_row w3 H 4 _ _ _ g3
        have d5 : w3.cell? ⟨H, 5, none⟩ = some (.int .u32 (x 5)) := cell_of_row w3 H 5 _ _ _ g3
        have d6 : w3.cell? ⟨H, 6, none⟩ = some (.int .u32 (x 6)) := cell_of_row w3 H 6 _ _ _ g3
        have d7 : w3.cell? ⟨H, 7, none⟩ = some (.int .u32 (x 7)) := cell_of_row w3 H 7 _ _ _ g3
        have G3 := Lib.hid (And.intro g3 k3)
        clear g3 k3 o3 r3 hcd0 hA3
        rw [h64]
        go_upto_region 6 with (fail)
        refine start_ (n := 13) (S := fun w' => w'.cell? ⟨H, 0, none⟩ = some (.int .u32 (x 0)) ∧ w'.cell? ⟨H, 1, none⟩ = some (.int .u32 (x 1)) ∧ w'.cell? ⟨H, 2, none⟩ = some (.int .u32 (x 2)) ∧ w'.cell? ⟨H, 3, none⟩ = some (.int .u32 (x 3)) ∧ w'.cell? ⟨H, 4, none⟩ = some (.int .u32 (x 4)) ∧ w'.cell? ⟨H, 5, none⟩ = some (.int .u32 (x 5)) ∧ w'.cell? ⟨H, 6, none⟩ = some (.int .u32 (x 6)) ∧ w'.cell? ⟨H, 7, none⟩ = some (.int .u32 (x 7)) ∧ w'.cell? ⟨H, 9, none⟩ = some (.slice (some ad') 64 c1)) (ds := [12]) #[false, false, false, false, false, false, false, false, false, false, false, false, false] (by kernel_rfl) rfl rfl ⟨d0, d1, d2, d3, d4, d5, d6, d7, d9⟩ (fun hHeld => ?_)
        refine pure_ (i := 0) (N := (some 37)) (v := ?_) (a' := ?_) #[true, false, false, false, false, false, false, false, false, false, false, false, false] rfl rfl (by kernel_rfl) (fun _ _ _ h => h) (Or.inl ⟨by rfl, ?_⟩) ?_ ?_
        rotate_left
        · intro w'
          go_simp
          with_reducible rfl
        rotate_left
        · simp only [Act.put, List.setIfInBounds_toArray, List.set_cons_zero, List.set_cons_succ, i64_w, i32_w]
          rfl
        refine pure_ (i := 1) (N := (some 38)) (v := ?_) (a' := ?_) #[true, true, false, false, false, false, false, false, false, false, false, false, false] rfl rfl (by kernel_rfl) (fun _ _ _ h => h) (Or.inl ⟨by rfl, ?_⟩) ?_ ?_
        rotate_left
        · intro w'
          go_simp
          with_reducible rfl
        rotate_left
        · simp only [Act.put, List.setIfInBounds_toArray, List.set_cons_zero, List.set_cons_succ, i64_w, i32_w]
          rfl
        refine pure_ (i := 2) (N := (some 39)) (v := ?_) (a' := ?_) #[true, true, true, false, false, false, false, false, false, false, false, false, false] rfl rfl (by kernel_rfl) (fun _ _ _ h => h) (Or.inl ⟨by rfl, ?_⟩) ?_ ?_
        rotate_left
        · intro w'
          go_simp
          with_reducible rfl
        rotate_left
        · simp only [Act.put, List.setIfInBounds_toArray, List.set_cons_zero, List.set_cons_succ, i64_w, i32_w]
          rfl
        refine pure_ (i := 3) (N := (some 40)) (v := ?_) (a' := ?_) #[true, true, true, true, false, false, false, false, false, false, false, false, false] rfl rfl (by kernel_rfl) (fun _ _ _ h => h) (Or.inl ⟨by rfl, ?_⟩) ?_ ?_
        rotate_left
        · intro w'
          go_simp
          with_reducible rfl
        rotate_left
        · simp only [Act.put, List.setIfInBounds_toArray, List.set_cons_zero, List.set_cons_succ, i64_w, i32_w]
          rfl
        refine pure_ (i := 5) (N := (some 42)) (v := ?_) (a' := ?_) #[true, true, true, true, false, true, false, false, false, false, false, false, false] rfl rfl (by kernel_rfl) (fun _ _ _ h => h) (Or.inl ⟨by rfl, ?_⟩) ?_ ?_
        rotate_left
        · intro w'
          go_simp
          with_reducible rfl
        rotate_left
        · simp only [Act.put, List.setIfInBounds_toArray, List.set_cons_zero, List.set_cons_succ, i64_w, i32_w]
          rfl
        refine pure_ (i := 6) (N := (some 43)) (v := ?_) (a' := ?_) #[true, true, true, true, false, true, true, false, false, false, false, false, false] rfl rfl (by kernel_rfl) (fun _ _ _ h => h) (Or.inl ⟨by rfl, ?_⟩) ?_ ?_
        rotate_left
        · intro w'
          go_simp
          with_reducible rfl
        rotate_left
        · simp only [Act.put, List.setIfInBounds_toArray, List.set_cons_zero, List.set_cons_succ, i64_w, i32_w]
          rfl
        refine pure_ (i := 7) (N := (some 44)) (v := ?_) (a' := ?_) #[true, true, true, true, false, true, true, true, false, false, false, false, false] rfl rfl (by kernel_rfl) (fun _ _ _ h => h) (Or.inl ⟨by rfl, ?_⟩) ?_ ?_
        rotate_left
        · intro w'
          go_simp
          with_reducible rfl
        rotate_left
        · simp only [Act.put, List.setIfInBounds_toArray, List.set_cons_zero, List.set_cons_succ, i64_w, i32_w]
          rfl
        refine take_ (i := 4) (N := (some 41)) (v := ?_) (a' := ?_) #[true, true, true, true, true, true, true, true, false, false, false, false, false] rfl rfl (by kernel_rfl) (fun _ _ _ h => h) (Or.inl ⟨by rfl, ?_⟩) hHeld ?_ ?_
        rotate_left
        · rintro w' ⟨s0, s1, s2, s3, s4, s5, s6, s7, s9⟩
          go_simp
          with_reducible rfl
        rotate_left
        · simp only [Act.put, List.setIfInBounds_toArray, List.set_cons_zero, List.set_cons_succ, i64_w, i32_w]
          rfl
        refine take_ (i := 8) (N := (some 45)) (v := ?_) (a' := ?_) #[true, true, true, true, true, true, true, true, true, false, false, false, false] rfl rfl (by kernel_rfl) (fun _ _ _ h => h) (Or.inl ⟨by rfl, ?_⟩) hHeld ?_ ?_
        rotate_left
        · rintro w' ⟨s0, s1, s2, s3, s4, s5, s6, s7, s9⟩
          go_simp
          with_reducible rfl
        rotate_left
        · simp only [Act.put, List.setIfInBounds_toArray, List.set_cons_zero, List.set_cons_succ, i64_w, i32_w]
          rfl
        refine one_ (i := 9) (N := (some 46)) #[true, true, true, true, true, true, true, true, true, true, false, false, false] rfl rfl (by kernel_rfl) (by decide) (fun K hK => ?_)
        refine goes_ Try.func30 (by kernel_rfl) rfl #[.agg (S8 x), .slice (some ad') 64 c1] (by rfl) rfl rfl (by (try simp only [List.map_toArray, List.map_cons, List.map_nil]); rfl) ?_
        refine (rblock_any x ad' 64 c1 Bk w3.drew (Nat.le_refl _) hcd hBd hltd).mono ?_
        rintro e wd ⟨rfl, hbd⟩
        refine ⟨_, rfl, ?_⟩
        replace d0 : wd.cell? ⟨H, 0, none⟩ = some (.int .u32 (x 0)) := (hbd.cell (p := ⟨H, 0, none⟩) hltH3).trans d0
        replace d1 : wd.cell? ⟨H, 1, none⟩ = some (.int .u32 (x 1)) := (hbd.cell (p := ⟨H, 1, none⟩) hltH3).trans d1
        replace d2 : wd.cell? ⟨H, 2, none⟩ = some (.int .u32 (x 2)) := (hbd.cell (p := ⟨H, 2, none⟩) hltH3).trans d2
        replace d3 : wd.cell? ⟨H, 3, none⟩ = some (.int .u32 (x 3)) := (hbd.cell (p := ⟨H, 3, none⟩) hltH3).trans d3
        replace d4 : wd.cell? ⟨H, 4, none⟩ = some (.int .u32 (x 4)) := (hbd.cell (p := ⟨H, 4, none⟩) hltH3).trans d4
        replace d5 : wd.cell? ⟨H, 5, none⟩ = some (.int .u32 (x 5)) := (hbd.cell (p := ⟨H, 5, none⟩) hltH3).trans d5
        replace d6 : wd.cell? ⟨H, 6, none⟩ = some (.int .u32 (x 6)) := (hbd.cell (p := ⟨H, 6, none⟩) hltH3).trans d6
        replace d7 : wd.cell? ⟨H, 7, none⟩ = some (.int .u32 (x 7)) := (hbd.cell (p := ⟨H, 7, none⟩) hltH3).trans d7
        replace d9 : wd.cell? ⟨H, 9, none⟩ = some (.slice (some ad') 64 c1) := (hbd.cell (p := ⟨H, 9, none⟩) hltH3).trans d9
        have GD : wd.heap[H]? = some (.cells (Hr x (.slice (some ad') 64 c1) ((i : Int) + 1)) 65 (0, 0)) ∧ w.grownBy wd (some H) := ⟨(hbd.block H hltH3).trans G3.out.1, gb_below (gb_drew G3.out.2) hbd (by have := G3.out.2.size; exact this)⟩
        refine hK.out _ _ ⟨d0, d1, d2, d3, d4, d5, d6, d7, d9⟩ (fun hHeld => ?_)
        clear hK K
        refine norm_ (a' := ?_) ?_ ?_
        rotate_left
        · show Act.put _ (some 46) _ = _
          simp only [Act.put, List.setIfInBounds_toArray, List.set_cons_zero, List.set_cons_succ, i64_w, i32_w]
          rfl
        refine pure_ (i := 10) (N := (some 47)) (v := ?_) (a' := ?_) #[true, true, true, true, true, true, true, true, true, true, true, false, false] rfl rfl (by kernel_rfl) (fun _ _ _ h => h) (Or.inl ⟨by rfl, ?_⟩) ?_ ?_
        rotate_left
        · intro w'
          go_simp
          with_reducible rfl
        rotate_left
        · simp only [Act.put, List.setIfInBounds_toArray, List.set_cons_zero, List.set_cons_succ, i64_w, i32_w]
          rfl
        refine pure_ (i := 11) (N := (some 48)) (v := ?_) (a' := ?_) #[true, true, true, true, true, true, true, true, true, true, true, true, false] rfl rfl (by kernel_rfl) (fun _ _ _ h => h) (Or.inl ⟨by rfl, ?_⟩) ?_ ?_
        rotate_left
        · intro w'
          go_simp
          with_reducible rfl
        rotate_left
        · simp only [Act.put, List.setIfInBounds_toArray, List.set_cons_zero, List.set_cons_succ, i64_w, i32_w]
          rfl
        refine last_ (i := 12) (N := none) #[true, true, true, true, true, true, true, true, true, true, true, true, true] rfl rfl (by kernel_rfl) (by decide) (fun K hK => ?_)
        refine skip_ (w1 := set8 wd H (blockS Bk x)) (by rfl) rfl ?hst ?_
        case hst =>
          have f0 : wd.frozen? ⟨H, 0, none⟩ = false := frozen_of_row wd H 0 _ _ GD.1
          have f1 : wd.frozen? ⟨H, 1, none⟩ = false := frozen_of_row wd H 1 _ _ GD.1
          have f2 : wd.frozen? ⟨H, 2, none⟩ = false := frozen_of_row wd H 2 _ _ GD.1
          have f3 : wd.frozen? ⟨H, 3, none⟩ = false := frozen_of_row wd H 3 _ _ GD.1
          have f4 : wd.frozen? ⟨H, 4, none⟩ = false := frozen_of_row wd H 4 _ _ GD.1
          have f5 : wd.frozen? ⟨H, 5, none⟩ = false := frozen_of_row wd H 5 _ _ GD.1
          have f6 : wd.frozen? ⟨H, 6, none⟩ = false := frozen_of_row wd H 6 _ _ GD.1
          have f7 : wd.frozen? ⟨H, 7, none⟩ = false := frozen_of_row wd H 7 _ _ GD.1
          simp only [set8, S8]
          go_simp
        refine hK.out _ _ ?_
        clear hK K
        refine done_ (by kernel_rfl) ?_
        have g4 := set8_heapR (y := blockS Bk x) GD.1
        have k4 := set8_gb GD.2 (blockS Bk x)
        refine abs3 (R := Exit.then _ _) ?_
        intro w4 hw4
        rw [← hw4] at g4 k4
        clear hw4 GD G3 hbd hHeld d0 d1 d2 d3 d4 d5 d6 d7 d9 hcd hBd hltd
        have q9 : w4.cell? ⟨H, 9, none⟩ = some (.slice (some ad') 64 c1) := cell_of_row w4 H 9 _ _ _ g4
        have qf9 : w4.frozen? ⟨H, 9, none⟩ = false := frozen_of_row w4 H 9 _ _ g4
        have hnil : heldL L (i + 1) = [] := List.eq_nil_of_length_eq_zero (by rw [heldL_len L (i + 1) (by omega)]; omega)
        have hst : stB L s ((i + 1) / 64) = blockS Bk x := by rw [hdiv, hBk_.out, hx_.out]; rfl
        have G4 := Lib.hid (And.intro g4 (And.intro k4 (And.intro hnil hst)))
        clear g4 k4 hnil hst
        go_wp2
        refine ⟨⟨i + 1, .slice none 0 0, by omega, by go_num, ?_, ?_, gb_set G4.out.2.1 9 _⟩, by simp [intOf]; omega⟩
        · rw [G4.out.2.2.2]; exact heap_setCell_same w4 H 9 _ 65 (.slice none 0 0) G4.out.1
        · rw [G4.out.2.2.1]; exact own_nil _ _ _ _
      · have hdiv : (i + 1) / 64 = i / 64 := by omega
        have hnx : heldL L (i + 1) = heldL L i ++ [b] := by rw [hb_.out, HAPP.out]; unfold heldL; rw [hdiv]
        obtain ⟨m, hm_⟩ : ∃ m, m = (heldL L i ++ [b]).length := ⟨_, rfl⟩
        rw [← hm_] at d9 g3 o3 h64
        have h64' : ¬ (m : Int) = 64 := by omega
        have G3 := Lib.hid (And.intro g3 (And.intro k3 (And.intro o3 (And.intro hnx hm_))))
        clear g3 k3 o3 hnx hm_ hm
        go_wp2
        refine ⟨⟨i + 1, .slice A1 m c1, by omega, by go_num, ?_, ?_, G3.out.2.1⟩, by simp [intOf]; omega⟩
        · rw [hdiv]; exact G3.out.1
        · rw [G3.out.2.2.2.1, ← G3.out.2.2.2.2]; exact G3.out.2.2.1
    · obtain rfl : i = L.length := by omega
      clear hA rr hlt
      have G := Lib.hid (And.intro gH (And.intro gO gB))
      clear gH gO gB
      go_wp2
      refine bodyPost_end (results_none rfl _ _ _) rfl ⟨v, rfl, G.out.1, ?_, G.out.2.2⟩
      have h := G.out.2.1
      unfold heldL at h
      rw [List.take_length] at h
      exact h
end Go.Proofs.Ytcjhephlhgpfkaa.Sha

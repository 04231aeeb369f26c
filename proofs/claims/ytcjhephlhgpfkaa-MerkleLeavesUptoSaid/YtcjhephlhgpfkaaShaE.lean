/- What is proved: the contract of (*Hasher).Write on a hasher that has taken nothing; the conditions stand in the theorem. -/
import Derived.Test.YtcjhephlhgpfkaaShaB
import Derived.Test.YtcjhephlhgpfkaaShaD
import Derived.Test.YtcjhephlhgpfkaaWWords
import Derived.Test.YtcjhephlhgpfkaaWLast
import Derived.Test.YtcjhephlhgpfkaaWTab
import Derived.Deep.DeepCutAuto
import Derived.Deep.CutBlock
namespace Go.Proofs.Ytcjhephlhgpfkaa.Sha
open Go.RowKit Go.Proofs.YtcjhephlhgpfkaaW.PrintWords Go.Proofs.YtcjhephlhgpfkaaW.PrintLast
set_option linter.unusedVariables false
set_option linter.unusedSimpArgs false
theorem info5 : (Try.prog.info? 5).map (fun i => (i.zero, i.size, i.bytes)) = some (some (.int .u8 0), 1, 1) := by kernel_rfl
theorem gb_refl (w : World) (row : Option Nat) : w.grownBy w row := ⟨rfl, rfl, rfl, Nat.le_refl _, fun _ _ _ => rfl⟩
theorem gb_set {a w : World} {g : Nat} (h : a.grownBy w (some g)) (i : Nat) (v : Value) : a.grownBy (w.setCell ⟨g, i, none⟩ v) (some g) :=
  ⟨h.os, h.tape, h.output, by simpa [World.setCell] using h.size, fun k hk hne => (Below.heap_setCell w ⟨g, i, none⟩ v k (fun e => hne (by rw [e]))).trans (h.block k hk hne)⟩
theorem gb_below {a w w' : World} {B : Nat} {row : Option Nat} (h : a.grownBy w row) (hb : Below B w w') (hB : a.heap.size ≤ B) : a.grownBy w' row :=
  ⟨hb.os.trans h.os, hb.tape.trans h.tape, hb.output.trans h.output, Nat.le_trans h.size hb.size, fun k hk hne => (hb.block k (by omega)).trans (h.block k hk hne)⟩
theorem gb_drew {a w : World} {row : Option Nat} (h : a.grownBy w row) : a.grownBy w.drew row := ⟨h.os, h.tape, h.output, h.size, h.block⟩
theorem gb_setRow {a w : World} {g : Nat} (h : a.grownBy w (some g)) (cs : Array Value) : a.grownBy (w.setRow g cs) (some g) :=
  ⟨h.os, h.tape, h.output, by rw [setRow_size]; exact h.size, fun k hk hne => (heap_setRow_other w g cs k (fun e => hne (by rw [e]))).trans (h.block k hk hne)⟩
theorem reads_gb {w w' : World} {A : Option Addr} {n H : Nat} {xs : List Int} (h : ReadsInt w .u8 A n xs) (hg : w.grownBy w' (some H)) (hA : ∀ ad, A = some ad → 0 < n → ad.block ≠ H) : ReadsInt w' .u8 A n xs :=
  h.keep ⟨hg.size, fun i hi hne _ => hg.block i hi (fun e => hne (by injection e))⟩ hA
theorem own_shape {w : World} {base n : Nat} {v : Value} {xs : List Int} (h : w.ownsRow base 5 1 v n (nums .u8 xs)) : ∃ A c, v = .slice A n c ∧ n ≤ c ∧ ReadsInt w .u8 A n xs ∧ ∀ ad, A = some ad → base ≤ ad.block := by
  obtain ⟨A, c, rfl, hr⟩ := own_reads h
  rcases h.2 with ⟨e, rfl⟩ | ⟨g, cap, cur, e, hb, _, hn, _⟩
  · injection e with e1 e2 e3
    subst e1
    exact ⟨none, c, rfl, Nat.zero_le _, hr, fun ad h => by cases h⟩
  · injection e with e1 e2 e3
    subst e1
    exact ⟨_, c, rfl, by omega, hr, fun ad h => by injection h with h; subst h; exact hb⟩
theorem byte_bd {L : List Int} (hL : ∀ x ∈ L, 0 ≤ x ∧ x ≤ 255) (i : Nat) : 0 ≤ L.getD i 0 ∧ L.getD i 0 ≤ 255 := by
  rw [List.getD_eq_getElem?_getD]
  rcases Nat.lt_or_ge i L.length with h | h
  · rw [List.getElem?_eq_getElem h]; exact hL _ (List.getElem_mem h)
  · rw [List.getElem?_eq_none h]; simp
theorem addr_add_block (b : Addr) (m : Nat) : (b.add m).block = b.block := by
  unfold Addr.add
  split <;> rfl
theorem cut_far {P : Program} (t e : TypeId) (kl : IntKind) {i : TypeInfo} (ht : P.underlying t = some (.slice e)) (hi : P.info? e = some i) (hsz : i.size = 1) (A : Option Addr) (n c m : Nat) (hm : m ≤ n) (H : Nat) (hA : ∀ ad, A = some ad → ad.block ≠ H) :
    ∃ A' : Option Addr, (∀ W : World, (Instr.slice t (.slice A n c) (some (.int kl (m : Int))) none none).run P W = .ok (.slice A' (n - m) (c - m)) W) ∧
      (∀ (w : World) (k : IntKind) (xs : List Int), n ≤ c → ReadsInt w k A n xs → ReadsInt w k A' (n - m) (xs.drop m)) ∧ ∀ ad, A' = some ad → ad.block ≠ H := by
  refine ⟨if c = m then A else A.map (·.add m), fun W => ?_, fun w k xs hc h => h.drop_ m hm hc, fun ad h => ?_⟩
  · have hel : P.elem t = e := by simp [Program.elem, ht]
    have hu : P.underlying t = some (.slice (P.elem t)) := by rw [hel]; exact ht
    rw [run_slice_l W t A n c hu kl (m : Int) (Int.natCast_nonneg _) (by omega), hel]
    simp [sizeOf, typeInfo, hi, hsz, sliced, Result.andThen]
  · split at h
    · exact hA ad h
    · obtain ⟨b, hb, rfl⟩ := Option.map_eq_some_iff.1 h
      have := hA b hb
      rwa [addr_add_block]
def set8 (w : World) (H : Nat) (y : Nat → Int) : World := (((((((w.setCell ⟨H, 0, none⟩ (.int .u32 (y 0))).setCell ⟨H, 1, none⟩ (.int .u32 (y 1))).setCell ⟨H, 2, none⟩ (.int .u32 (y 2))).setCell ⟨H, 3, none⟩ (.int .u32 (y 3))).setCell ⟨H, 4, none⟩ (.int .u32 (y 4))).setCell ⟨H, 5, none⟩ (.int .u32 (y 5))).setCell ⟨H, 6, none⟩ (.int .u32 (y 6))).setCell ⟨H, 7, none⟩ (.int .u32 (y 7))
theorem set8_heap {w : World} {H : Nat} {x y : Nat → Int} {v : Value} {n : Int} (h : w.heap[H]? = some (.cells (Hc x v n) 61 (0, 0))) : (set8 w H y).heap[H]? = some (.cells (Hc y v n) 61 (0, 0)) := by
  have h0 := heap_setCell_same _ H 0 _ 61 (.int .u32 (y 0)) h
  have h1 := heap_setCell_same _ H 1 _ 61 (.int .u32 (y 1)) h0
  have h2 := heap_setCell_same _ H 2 _ 61 (.int .u32 (y 2)) h1
  have h3 := heap_setCell_same _ H 3 _ 61 (.int .u32 (y 3)) h2
  have h4 := heap_setCell_same _ H 4 _ 61 (.int .u32 (y 4)) h3
  have h5 := heap_setCell_same _ H 5 _ 61 (.int .u32 (y 5)) h4
  have h6 := heap_setCell_same _ H 6 _ 61 (.int .u32 (y 6)) h5
  have h7 := heap_setCell_same _ H 7 _ 61 (.int .u32 (y 7)) h6
  unfold set8
  rw [h7]
  simp only [Hc, List.setIfInBounds_toArray, List.set_cons_zero, List.set_cons_succ]
theorem set8_gb {a w : World} {H : Nat} (h : a.grownBy w (some H)) (y : Nat → Int) : a.grownBy (set8 w H y) (some H) := gb_set (gb_set (gb_set (gb_set (gb_set (gb_set (gb_set (gb_set h 0 _) 1 _) 2 _) 3 _) 4 _) 5 _) 6 _) 7 _
def WritePost (H : Nat) (s : Nat → Int) (L : List Int) (w : World) (e : Ending) (w' : World) : Prop :=
  ∃ v, e = .returned (.tuple #[]) ∧ w'.heap[H]? = some (.cells (Hc (stB L s (L.length / 64)) v L.length) 61 (0, 0)) ∧
    w'.ownsRow w.heap.size 5 1 v (L.drop (64 * (L.length / 64))).length (nums .u8 (L.drop (64 * (L.length / 64)))) ∧ w.grownBy w' (some H)
set_option maxRecDepth 100000 in
set_option maxHeartbeats 8000000 in
theorem write_any (w : World) (H : Nat) (s : Nat → Int) (A : Option Addr) (c : Nat) (L : List Int) (hH : w.heap[H]? = some (.cells (Hc s (.slice none 0 0) 0) 61 (0, 0)))
    (hr : ReadsInt w .u8 A L.length L) (hc : L.length ≤ c) (hA : ∀ ad, A = some ad → 0 < L.length → ad.block ≠ H) (hL : ∀ x ∈ L, 0 ≤ x ∧ x ≤ 255) (hlen : L.length ≤ 70368744177664) :
    Calls Try.prog 18 #[.pointer (some ⟨H, 0, none⟩), .slice A L.length c] w (WritePost H s L w) := by
  have hltH : H < w.heap.size := by rcases Nat.lt_or_ge H w.heap.size with h | h; exact h; rw [Array.getElem?_eq_none h] at hH; cases hH
  have c8 : w.cell? ⟨H, 8, none⟩ = some (.slice none 0 0) := cell_of_row w H 8 _ _ _ hH
  have c9 : w.cell? ⟨H, 9, none⟩ = some (.int .u64 0) := cell_of_row w H 9 _ _ _ hH
  have c10 : w.cell? ⟨H, 10, none⟩ = some (.bool true) := cell_of_row w H 10 _ _ _ hH
  have f9 : w.frozen? ⟨H, 9, none⟩ = false := frozen_of_row w H 9 _ _ hH
  go_enter Try.func18, Try.ntmps18
  go_upto_region 2 with (fail)
  refine abs_world ?_
  intro w1 hw1
  have g1 : w1.heap[H]? = some (.cells (Hc s (.slice none 0 0) L.length) 61 (0, 0)) := by rw [hw1]; exact heap_setCell_same w H 9 _ 61 (.int .u64 L.length) hH
  have k1 : w.grownBy w1 (some H) := by rw [hw1]; exact gb_set (gb_refl w _) 9 _
  have r1 := reads_gb hr k1 hA
  have z1 : w1.heap.size = w.heap.size := by rw [hw1, World.size_setCell]
  have d8 : w1.cell? ⟨H, 8, none⟩ = some (.slice none 0 0) := cell_of_row w1 H 8 _ _ _ g1
  clear hw1 c8 c9 c10 f9 hr hH
  have Z1 := Lib.hid z1
  have G := Lib.hid (And.intro g1 (And.intro k1 r1))
  clear g1 k1 r1 z1
  go_upto_region 3 with (first
    | (at_builtin; refine print_append_row (w0 := w1) w1.heap.size rfl (.tmp 28) (.tmp 29) 37 5 .u8 1 rfl Try.underlying37 info5 (by omega) (.slice none 0 0) [] L A L.length c rfl rfl (own_nil w1 _ 5 1) G.out.2.2 (Below.refl _ _) (Nat.le_refl _) (by simp; omega) ?_; intro v2 w3 hown2 hb2 hg2 hat2))
  obtain ⟨g1, k1, r1⟩ := G.out
  have z1 := Z1.out
  have hb2' : Below H.succ w1 w3 := hb2.mono (by omega)
  obtain ⟨A2, c2, rfl, hc2, hr2, hA2⟩ := own_shape (by simpa using hown2)
  have g3 : w3.heap[H]? = some (.cells (Hc s (.slice none 0 0) L.length) 61 (0, 0)) := (hb2.block H (by omega)).trans g1
  have k3 : w.grownBy w3 (some H) := gb_below k1 hb2 (by omega)
  have hA3 : ∀ ad, A2 = some ad → ad.block ≠ H := fun ad e => by have := hA2 ad e; omega
  clear hown2 hb2 hg2 hat2 hA2 hb2' g1 k1 r1 G d8 hA
  have INIT := Lib.hid (And.intro g3 (And.intro k3 (And.intro hr2 (And.intro hc2 hA3))))
  clear g3 k3 hr2 hc2 hA3 hc z1
  obtain ⟨B0, hB0⟩ : ∃ B0, B0 = w.heap.size := ⟨_, rfl⟩
  go_loopw [4] (fun v wr => ∃ (k c' : Nat) (A' : Option Addr), 64 * k ≤ L.length ∧ v = .slice A' (L.drop (64 * k)).length c' ∧ (L.drop (64 * k)).length ≤ c' ∧ ReadsInt wr .u8 A' (L.drop (64 * k)).length (L.drop (64 * k)) ∧ (∀ ad, A' = some ad → ad.block ≠ H) ∧
      wr.heap[H]? = some (.cells (Hc (stB L s k) (.slice none 0 0) L.length) 61 (0, 0)) ∧ w.grownBy wr (some H))
    (fun v _ => match v with | .slice _ n _ => n | _ => 0)
  case atStart => exact ⟨0, c2, A2, by omega, by simp, by simpa using INIT.out.2.2.2.1, by simpa using INIT.out.2.2.1, INIT.out.2.2.2.2, INIT.out.1, INIT.out.2.1⟩
  case round =>
    clear INIT
    obtain ⟨k, c', A', hk, rfl, hc', hr', hA', gH, kH⟩ := hrel
    have hdl : (L.drop (64 * k)).length = L.length - 64 * k := List.length_drop
    by_cases h64 : 64 ≤ L.length - 64 * k
    · obtain ⟨ad, rfl, hcd0⟩ := hr'.2.2 (by omega)
      obtain ⟨x, hx_⟩ : ∃ x, RowKit.Hid (x = stB L s k) := ⟨_, Lib.hid rfl⟩
      rw [← hx_.out] at gH
      obtain ⟨Bk, hBk_⟩ : ∃ Bk : Nat → Int, RowKit.Hid (Bk = fun i => L.getD (64 * k + i) 0) := ⟨_, Lib.hid rfl⟩
      have hcd : ∀ i, i < 64 → wr.cell? (ad.add i) = some (.int .u8 (Bk i)) := by
        intro i hi
        rw [hcd0 i (by omega), hBk_.out]
        simp [List.getD, List.getElem?_drop]
      have hBd : ∀ i, 0 ≤ Bk i ∧ Bk i ≤ 255 := by
        intro i; rw [hBk_.out]; exact byte_bd hL _
      have hltd : ad.block < wr.heap.size := World.block_lt_of_cell? wr _ (by have := hcd 0 (by omega); exact this)
      have hltH' : H < wr.heap.size := Nat.lt_of_lt_of_le hltH kH.size
      have h64c : (64 : Int) ≤ (c' : Int) := by omega
      have h64z : (0 : Int) ≤ 64 := by omega
      have c0 : wr.cell? ⟨H, 0, none⟩ = some (.int .u32 (x 0)) := cell_of_row wr H 0 _ _ _ gH
      have c1 : wr.cell? ⟨H, 1, none⟩ = some (.int .u32 (x 1)) := cell_of_row wr H 1 _ _ _ gH
      have c2 : wr.cell? ⟨H, 2, none⟩ = some (.int .u32 (x 2)) := cell_of_row wr H 2 _ _ _ gH
      have c3 : wr.cell? ⟨H, 3, none⟩ = some (.int .u32 (x 3)) := cell_of_row wr H 3 _ _ _ gH
      have c4 : wr.cell? ⟨H, 4, none⟩ = some (.int .u32 (x 4)) := cell_of_row wr H 4 _ _ _ gH
      have c5 : wr.cell? ⟨H, 5, none⟩ = some (.int .u32 (x 5)) := cell_of_row wr H 5 _ _ _ gH
      have c6 : wr.cell? ⟨H, 6, none⟩ = some (.int .u32 (x 6)) := cell_of_row wr H 6 _ _ _ gH
      have c7 : wr.cell? ⟨H, 7, none⟩ = some (.int .u32 (x 7)) := cell_of_row wr H 7 _ _ _ gH
      have GG := Lib.hid (And.intro gH kH)
      clear gH kH
      go_upto_region 4 with (fail)
      refine start_ (n := 11) (S := fun w' => w'.cell? ⟨H, 0, none⟩ = some (.int .u32 (x 0)) ∧ w'.cell? ⟨H, 1, none⟩ = some (.int .u32 (x 1)) ∧ w'.cell? ⟨H, 2, none⟩ = some (.int .u32 (x 2)) ∧ w'.cell? ⟨H, 3, none⟩ = some (.int .u32 (x 3)) ∧ w'.cell? ⟨H, 4, none⟩ = some (.int .u32 (x 4)) ∧ w'.cell? ⟨H, 5, none⟩ = some (.int .u32 (x 5)) ∧ w'.cell? ⟨H, 6, none⟩ = some (.int .u32 (x 6)) ∧ w'.cell? ⟨H, 7, none⟩ = some (.int .u32 (x 7))) (ds := [10]) #[false, false, false, false, false, false, false, false, false, false, false] (by kernel_rfl) rfl rfl ⟨c0, c1, c2, c3, c4, c5, c6, c7⟩ (fun hHeld => ?_)
      refine pure_ (i := 0) (N := (some 34)) (v := ?_) (a' := ?_) #[true, false, false, false, false, false, false, false, false, false, false] rfl rfl (by kernel_rfl) (fun _ _ _ h => h) (Or.inl ⟨by rfl, ?_⟩) ?_ ?_
      rotate_left
      · intro w'
        go_simp
        with_reducible rfl
      rotate_left
      · simp only [Act.put, List.setIfInBounds_toArray, List.set_cons_zero, List.set_cons_succ, i64_w, i32_w]
        rfl
      refine pure_ (i := 1) (N := (some 35)) (v := ?_) (a' := ?_) #[true, true, false, false, false, false, false, false, false, false, false] rfl rfl (by kernel_rfl) (fun _ _ _ h => h) (Or.inl ⟨by rfl, ?_⟩) ?_ ?_
      rotate_left
      · intro w'
        go_simp
        with_reducible rfl
      rotate_left
      · simp only [Act.put, List.setIfInBounds_toArray, List.set_cons_zero, List.set_cons_succ, i64_w, i32_w]
        rfl
      refine pure_ (i := 5) (N := (some 39)) (v := ?_) (a' := ?_) #[true, true, false, false, false, true, false, false, false, false, false] rfl rfl (by kernel_rfl) (fun _ _ _ h => h) (Or.inl ⟨by rfl, ?_⟩) ?_ ?_
      rotate_left
      · intro w'
        go_simp
        with_reducible rfl
      rotate_left
      · simp only [Act.put, List.setIfInBounds_toArray, List.set_cons_zero, List.set_cons_succ, i64_w, i32_w]
        rfl
      refine pure_ (i := 2) (N := (some 36)) (v := ?_) (a' := ?_) #[true, true, true, false, false, true, false, false, false, false, false] rfl rfl (by kernel_rfl) (fun _ _ _ h => h) (Or.inl ⟨by rfl, ?_⟩) ?_ ?_
      rotate_left
      · intro w'
        go_simp
        with_reducible rfl
      rotate_left
      · simp only [Act.put, List.setIfInBounds_toArray, List.set_cons_zero, List.set_cons_succ, i64_w, i32_w]
        rfl
      refine pure_ (i := 3) (N := (some 37)) (v := ?_) (a' := ?_) #[true, true, true, true, false, true, false, false, false, false, false] rfl rfl (by kernel_rfl) (fun _ _ _ h => h) (Or.inl ⟨by rfl, ?_⟩) ?_ ?_
      rotate_left
      · intro w'
        go_simp
        with_reducible rfl
      rotate_left
      · simp only [Act.put, List.setIfInBounds_toArray, List.set_cons_zero, List.set_cons_succ, i64_w, i32_w]
        rfl
      refine pure_ (i := 6) (N := (some 40)) (v := ?_) (a' := ?_) #[true, true, true, true, false, true, true, false, false, false, false] rfl rfl (by kernel_rfl) (fun _ _ _ h => h) (Or.inl ⟨by rfl, ?_⟩) ?_ ?_
      rotate_left
      · intro w'
        go_simp
        with_reducible rfl
      rotate_left
      · simp only [Act.put, List.setIfInBounds_toArray, List.set_cons_zero, List.set_cons_succ, i64_w, i32_w]
        rfl
      refine take_ (i := 4) (N := (some 38)) (v := ?_) (a' := ?_) #[true, true, true, true, true, true, true, false, false, false, false] rfl rfl (by kernel_rfl) (fun _ _ _ h => h) (Or.inl ⟨by rfl, ?_⟩) hHeld ?_ ?_
      rotate_left
      · rintro w' ⟨s0, s1, s2, s3, s4, s5, s6, s7⟩
        go_simp
        with_reducible rfl
      rotate_left
      · simp only [Act.put, List.setIfInBounds_toArray, List.set_cons_zero, List.set_cons_succ, i64_w, i32_w]
        rfl
      refine one_ (i := 7) (N := (some 41)) #[true, true, true, true, true, true, true, true, false, false, false] rfl rfl (by kernel_rfl) (by decide) (fun K hK => ?_)
      refine goes_ Try.func27 (by kernel_rfl) rfl #[.agg (S8 x), .slice (some ad) 64 c'] (by rfl) rfl rfl (by (try simp only [List.map_toArray, List.map_cons, List.map_nil]); rfl) ?_
      refine (block_any x ad 64 c' Bk wr.drew (Nat.le_refl _) hcd hBd hltd).mono ?_
      rintro e wd ⟨rfl, hbd⟩
      refine ⟨_, rfl, ?_⟩
      replace c0 : wd.cell? ⟨H, 0, none⟩ = some (.int .u32 (x 0)) := (hbd.cell (p := ⟨H, 0, none⟩) hltH').trans c0
      replace c1 : wd.cell? ⟨H, 1, none⟩ = some (.int .u32 (x 1)) := (hbd.cell (p := ⟨H, 1, none⟩) hltH').trans c1
      replace c2 : wd.cell? ⟨H, 2, none⟩ = some (.int .u32 (x 2)) := (hbd.cell (p := ⟨H, 2, none⟩) hltH').trans c2
      replace c3 : wd.cell? ⟨H, 3, none⟩ = some (.int .u32 (x 3)) := (hbd.cell (p := ⟨H, 3, none⟩) hltH').trans c3
      replace c4 : wd.cell? ⟨H, 4, none⟩ = some (.int .u32 (x 4)) := (hbd.cell (p := ⟨H, 4, none⟩) hltH').trans c4
      replace c5 : wd.cell? ⟨H, 5, none⟩ = some (.int .u32 (x 5)) := (hbd.cell (p := ⟨H, 5, none⟩) hltH').trans c5
      replace c6 : wd.cell? ⟨H, 6, none⟩ = some (.int .u32 (x 6)) := (hbd.cell (p := ⟨H, 6, none⟩) hltH').trans c6
      replace c7 : wd.cell? ⟨H, 7, none⟩ = some (.int .u32 (x 7)) := (hbd.cell (p := ⟨H, 7, none⟩) hltH').trans c7
      have GD : wd.heap[H]? = some (.cells (Hc x (.slice none 0 0) L.length) 61 (0, 0)) ∧ w.grownBy wd (some H) := ⟨(hbd.block H hltH').trans GG.out.1, gb_below (gb_drew GG.out.2) hbd (by have := GG.out.2.size; exact this)⟩
      refine hK.out _ _ ⟨c0, c1, c2, c3, c4, c5, c6, c7⟩ (fun hHeld => ?_)
      clear hK K
      refine norm_ (a' := ?_) ?_ ?_
      rotate_left
      · show Act.put _ (some 41) _ = _
        simp only [Act.put, List.setIfInBounds_toArray, List.set_cons_zero, List.set_cons_succ, i64_w, i32_w]
        rfl
      refine pure_ (i := 8) (N := (some 42)) (v := ?_) (a' := ?_) #[true, true, true, true, true, true, true, true, true, false, false] rfl rfl (by kernel_rfl) (fun _ _ _ h => h) (Or.inl ⟨by rfl, ?_⟩) ?_ ?_
      rotate_left
      · intro w'
        go_simp
        with_reducible rfl
      rotate_left
      · simp only [Act.put, List.setIfInBounds_toArray, List.set_cons_zero, List.set_cons_succ, i64_w, i32_w]
        rfl
      refine pure_ (i := 9) (N := (some 43)) (v := ?_) (a' := ?_) #[true, true, true, true, true, true, true, true, true, true, false] rfl rfl (by kernel_rfl) (fun _ _ _ h => h) (Or.inl ⟨by rfl, ?_⟩) ?_ ?_
      rotate_left
      · intro w'
        go_simp
        with_reducible rfl
      rotate_left
      · simp only [Act.put, List.setIfInBounds_toArray, List.set_cons_zero, List.set_cons_succ, i64_w, i32_w]
        rfl
      refine last_ (i := 10) (N := none) #[true, true, true, true, true, true, true, true, true, true, true] rfl rfl (by kernel_rfl) (by decide) (fun K hK => ?_)
      refine skip_ (w1 := set8 wd H (blockS Bk x)) (by rfl) rfl ?hst ?_
      case hst =>
        have f0 : wd.frozen? ⟨H, 0, none⟩ = false := frozen_of_row wd H 0 _ _ GD.1
        have f1 : wd.frozen? ⟨H, 1, none⟩ = false := frozen_of_row wd H 1 _ _ GD.1
        have f2 : wd.frozen? ⟨H, 2, none⟩ = false := frozen_of_row wd H 2 _ _ GD.1
        have f3 : wd.frozen? ⟨H, 3, none⟩ = false := frozen_of_row wd H 3 _ _ GD.1
        have f4 : wd.frozen? ⟨H, 4, none⟩ = false := frozen_of_row wd H 4 _ _ GD.1
        have f5 : wd.frozen? ⟨H, 5, none⟩ = false := frozen_of_row wd H 5 _ _ GD.1
        have f6 : wd.frozen? ⟨H, 6, none⟩ = false := frozen_of_row wd H 6 _ _ GD.1
        have f7 : wd.frozen? ⟨H, 7, none⟩ = false := frozen_of_row wd H 7 _ _ GD.1
        simp only [set8, S8]
        go_simp
      refine hK.out _ _ ?_
      clear hK K
      refine done_ (by kernel_rfl) ?_
      have gS : (set8 wd H (blockS Bk x)).heap[H]? = some (.cells (Hc (stB L s (k + 1)) (.slice none 0 0) L.length) 61 (0, 0)) := by
        rw [set8_heap GD.1]
        show _ = some (Obj.cells (Hc (blockS (fun i => L.getD (64 * k + i) 0) (stB L s k)) _ _) _ _)
        rw [← hBk_.out, ← hx_.out]
      have kS := set8_gb GD.2 (blockS Bk x)
      have rS := reads_gb hr' (set8_gb (gb_below (gb_drew (gb_refl wr (some H))) hbd (Nat.le_refl _)) (blockS Bk x)) (fun a e _ => hA' a e)
      obtain ⟨wn, hwn⟩ : ∃ wn, RowKit.Hid (wn = set8 wd H (blockS Bk x)) := ⟨_, Lib.hid rfl⟩
      rw [← hwn.out] at gS kS rS ⊢
      have REL := Lib.hid (And.intro gS (And.intro kS rS))
      clear gS kS rS hwn GD GG hHeld hbd c0 c1 c2 c3 c4 c5 c6 c7 hcd hBd hcd0 hr' h64c h64z
      obtain ⟨i0, hi, hz0, hz1, hz2⟩ := info_parts info5
      obtain ⟨A5, hcut, hread5, hA5⟩ := cut_far (P := Try.prog) 37 5 .i64 Try.underlying37 hi hz1 (some ad) (L.length - 64 * k) c' 64 (by omega) H hA'
      simp only [Int.cast_ofNat_Int] at hcut
      go_upto_region 3 with (fail)
      have hd5 : (L.drop (64 * k)).drop 64 = L.drop (64 * (k + 1)) := by rw [List.drop_drop]; rfl
      have rd := hread5 wn .u8 _ (by omega) (by have := REL.out.2.2; rwa [hdl] at this)
      rw [hd5] at rd
      refine ⟨⟨k + 1, by omega, c' - 64, A5, ⟨rfl, by omega, rfl⟩, by omega, ?_, hA5, REL.out.1, REL.out.2.1⟩, by omega⟩
      rwa [show L.length - 64 * (k + 1) = L.length - 64 * k - 64 by omega]
    · have hk2 : k = L.length / 64 := by omega
      have ltH := Nat.lt_of_lt_of_le hltH kH.size
      go_wp2_with (first
        | (at_builtin; refine print_append_row (w0 := wr) w.heap.size rfl (.const (.slice none 0 0)) (.tmp 47) 37 5 .u8 1 rfl Try.underlying37 info5 (by omega) (.slice none 0 0) [] (L.drop (64 * k)) A' (L.drop (64 * k)).length c' rfl rfl (own_nil wr _ 5 1) hr' (Below.refl _ _) kH.size (by simp; omega) ?_; intro v4 w4 hown4 hb4 hg4 hat4; simp only [List.nil_append] at hown4; obtain ⟨A4, c4, e4, -, -, -⟩ := own_shape hown4; subst e4; have g4 := (hb4.block H hltH).trans gH; have c8 : w4.cell? ⟨H, 8, none⟩ = some (.slice none 0 0) := cell_of_row w4 H 8 _ _ _ g4; have f8 : w4.frozen? ⟨H, 8, none⟩ = false := frozen_of_row w4 H 8 _ _ g4))
      refine bodyPost_end (results_none rfl _ _ _) rfl ?_
      have hw := hown4
      rw [hdl, hk2] at hw
      refine ⟨.slice A4 (L.length - 64 * (L.length / 64)) c4, rfl, ?_, ?_, ?_⟩
      · rw [hk2] at g4; exact heap_setCell_same _ H 8 _ 61 (.slice A4 _ c4) g4
      · rw [List.length_drop]
        exact ownsRow_setCell_below hw (a := ⟨H, 8, none⟩) hltH _
      · exact gb_set (gb_below kH hb4 (Nat.le_refl _)) 8 _
end Go.Proofs.Ytcjhephlhgpfkaa.Sha

/- What is proved: the walk of the law MerkleLeaves: it returns true where the rows' bytes fit; the conditions stand in the theorem. -/
import Derived.Test.YtcjhephlhgpfkaaShaLeaf
import Derived.Deep.DeepCutAuto
import Derived.Deep.CutBlock
namespace Go.Proofs.Ytcjhephlhgpfkaa.Sha
open Go.RowKit Go.Proofs.YtcjhephlhgpfkaaW.PrintWords Go.Proofs.YtcjhephlhgpfkaaW.PrintLast Go.Proofs.Ytcjhephlhgpfkaa.PMerkleLeaves
set_option linter.unusedVariables false
set_option linter.unusedSimpArgs false
theorem same_law (rows : List S33) (hm : rows.length ≤ 9223372036854775806) : ∀ (m i k : Nat), i + m = rows.length → 2 * m + 2 ≤ k → hawserlaw10_sameRows.l0 k rows rows (i : Int) = some true := by
  intro m
  induction m with
  | zero =>
    intro i k hi hk
    obtain ⟨k, rfl⟩ : ∃ q, k = q + 2 := ⟨k - 2, by omega⟩
    rw [hawserlaw10_sameRows.l0, if_neg (by omega), hawserlaw10_sameRows.j1, if_neg (by decide)]
    simp
  | succ m ih =>
    intro i k hi hk
    obtain ⟨k, rfl⟩ : ∃ q, k = q + 2 := ⟨k - 2, by omega⟩
    rw [hawserlaw10_sameRows.l0, if_pos (by omega), show decide ((i : Int) < (rows.length : Int)) = true from decide_eq_true (by omega), hawserlaw10_sameRows.j1, if_pos rfl, if_pos (by omega), if_pos (by omega), if_pos (by omega), if_neg (by simp), IntWalk.wrap64_in _ (by omega)]
    have := ih (i + 1) k (by omega) (by omega)
    exact this
theorem info33 : (Try.prog.info? 33).map (fun i => (i.zero, i.size, i.bytes)) = some (some (.agg #[.string ⟨#[]⟩, .string ⟨#[]⟩, .int .i64 0]), 3, 40) := by kernel_rfl
theorem marks_C (w : World) : Kd.C k33 (w.alloc (.cells #[.string ⟨#[109, 97, 114, 107]⟩, .string ⟨#[]⟩, .int .i64 0, .string ⟨#[107, 114, 97, 109]⟩, .string ⟨#[]⟩, .int .i64 0] 33)) (some ⟨w.heap.size, 0, none⟩) 2 [⟨⟨#[109, 97, 114, 107]⟩, ⟨#[]⟩, 0⟩, ⟨⟨#[107, 114, 97, 109]⟩, ⟨#[]⟩, 0⟩] := by
  refine ⟨rfl, by omega, fun _ => ⟨_, rfl, fun j p hj => ?_⟩⟩
  refine ⟨_, rfl, k33_mk _ p, fun i u hu => ?_⟩
  have hg := heap_alloc_new w (.cells #[.string ⟨#[109, 97, 114, 107]⟩, .string ⟨#[]⟩, .int .i64 0, .string ⟨#[107, 114, 97, 109]⟩, .string ⟨#[]⟩, .int .i64 0] 33)
  rw [Addr.add_lit, Nat.zero_add, cell_of_row _ w.heap.size _ _ _ _ hg]
  have hj2 : j < 2 := by
    rcases Nat.lt_or_ge j 2 with h | h
    · exact h
    · rw [List.getElem?_eq_none (by simpa using h)] at hj; cases hj
  have hi3 : i < 3 := by
    rcases Nat.lt_or_ge i 3 with h | h
    · exact h
    · rw [List.getElem?_eq_none (by simpa using h)] at hu; cases hu
  have hs : k33.sz = 3 := rfl
  rw [hs]
  match j, hj2 with
  | 0, _ =>
    injection hj with hj
    subst hj
    match i, hi3 with
    | 0, _ => exact hu
    | 1, _ => exact hu
    | 2, _ => exact hu
  | 1, _ =>
    injection hj with hj
    subst hj
    match i, hi3 with
    | 0, _ => exact hu
    | 1, _ => exact hu
    | 2, _ => exact hu
set_option maxRecDepth 100000 in
set_option maxHeartbeats 8000000 in
theorem leaves_walk (w : World) (A : Option Addr) (c : Nat) (rows : List S33) (hr : Kd.C k33 w A rows.length rows) (hc : rows.length ≤ c) (hlen : (leafL rows).length ≤ 35184372088832) (hrows : rows.length ≤ 1048576) :
    Calls Try.prog 5 #[.slice A rows.length c] w fun e w' => e = .returned (.bool true) ∧ Below w.heap.size w w' := by
  obtain ⟨L, hL⟩ : ∃ L, RowKit.Hid (L = leafL rows) := ⟨_, Lib.hid rfl⟩
  have hrl : ∀ W, Below w.heap.size w W → Calls Try.prog 11 #[.slice A rows.length c] W fun e w' => e = .returned (digV L) ∧ Below W.heap.size W w' := fun W hb => rleaf_any W A c rows L hL (Kd.C_below hr hb) hc hlen
  have hpl : ∀ (W : World) (A' : Option Addr) (c' : Nat), Kd.C k33 W A' rows.length rows → rows.length ≤ c' → Calls Try.prog 9 #[.slice A' rows.length c'] W fun e w' => e = .returned (digV L) ∧ Below W.heap.size W w' := fun W A' c' h1 h2 => leaf_any W A' c' rows L hL h1 h2 hlen
  have hsm : ∀ (W : World) (A' : Option Addr) (c' : Nat), Kd.C k33 W A' rows.length rows → rows.length ≤ c' → Kd.C k33 W A rows.length rows → Calls Try.prog 10 #[.slice A' rows.length c', .slice A rows.length c] W fun e w' => e = .returned (.bool true) ∧ Drawn0 W w' := fun W A' c' h1 h2 h3 =>
    hawserlaw10_sameRows.calls (2 * rows.length + 2) A' c' rows A c rows true W h1 h2 h3 hc (same_law rows (by omega) rows.length 0 _ (by omega) (Nat.le_refl _))
  have hm := Kd.C_max hr
  obtain ⟨al, hal⟩ : ∃ al, RowKit.Hid (al = rows ++ [⟨⟨#[109, 97, 114, 107]⟩, ⟨#[]⟩, 0⟩, ⟨⟨#[107, 114, 97, 109]⟩, ⟨#[]⟩, 0⟩]) := ⟨_, Lib.hid rfl⟩
  have hall : al.length = rows.length + 2 := by rw [hal.out]; simp
  have hat : al.take rows.length = rows := by rw [hal.out]; simp
  have am0 : rd_T33 al (rows.length : Int) = ⟨⟨#[109, 97, 114, 107]⟩, ⟨#[]⟩, 0⟩ := by rw [hal.out]; unfold rd_T33; simp
  have am1 : rd_T33 al ((rows.length : Int) + 1) = ⟨⟨#[107, 114, 97, 109]⟩, ⟨#[]⟩, 0⟩ := by
    rw [hal.out]; unfold rd_T33
    rw [show ((rows.length : Int) + 1).toNat = rows.length + 1 by omega]
    simp
  obtain ⟨n, hn⟩ : ∃ n, RowKit.Hid (n = rows.length) := ⟨_, Lib.hid rfl⟩
  rw [← hn.out] at hr hc hrl hpl hsm hm hall hat am0 am1 hrows ⊢
  have R := Lib.hid (And.intro hr (And.intro hrows (And.intro hall hat)))
  clear hr hall hat hlen
  go_enter Try.func5, Try.ntmps5
  go_upto_region 2 with (first
    | (at_builtin; refine Kd.R_append_rows k33 (Rr := k33.K w) (w0 := w) w.heap.size rfl (.const (.slice none 0 0)) (.tmp 6) 31 33 (.agg #[.string ⟨#[]⟩, .string ⟨#[]⟩, .int .i64 0]) 40 rfl Try.underlying31 info33 rfl (by decide) (by decide) (.slice none 0 0) [] rows A n c (fun _ => True) (fun _ => False) rfl rfl (Kd.R_nil _ _ _ _ _) R.out.1 (fun x cs h => by rw [k33_open h]; exact k33_mkM _ _ _ x) (fun _ h => h.elim) (fun _ _ => trivial) (Below.refl _ _) (Nat.le_refl _) (by have := R.out.2.1; simp; omega) ?_; intro v1 w1 hR1 hb1 hg1 hat1)
    | (at_builtin; refine Kd.R_append_rows k33 (Rr := k33.K (w1.alloc (.cells #[.string ⟨#[109, 97, 114, 107]⟩, .string ⟨#[]⟩, .int .i64 0, .string ⟨#[107, 114, 97, 109]⟩, .string ⟨#[]⟩, .int .i64 0] 33))) (w0 := w) w.heap.size rfl (.tmp 7) (.tmp 10) 31 33 (.agg #[.string ⟨#[]⟩, .string ⟨#[]⟩, .int .i64 0]) 40 rfl Try.underlying31 info33 rfl (by decide) (by decide) v1 rows [⟨⟨#[109, 97, 114, 107]⟩, ⟨#[]⟩, 0⟩, ⟨⟨#[107, 114, 97, 109]⟩, ⟨#[]⟩, 0⟩] (some ⟨w1.heap.size, 0, none⟩) 2 2 (fun _ => True) (fun _ => False) rfl rfl (Kd.R_below hR1 ((Below.refl _ _).alloc (Nat.le_refl _) _)) (marks_C w1) (fun x cs h => by rw [k33_open h]; exact k33_mkM _ _ _ x) (fun _ h => h.elim) (fun _ _ => trivial) ((hb1.trans (((Below.refl _ _).alloc (Nat.le_refl _) _).mono hb1.size))) (Nat.le_trans hb1.size (by rw [World.size_alloc]; omega)) (by have := R.out.2.1; rw [← hn.out]; omega) ?_; intro v2 w2 hR2 hb2 hg2 hat2))
  rw [← hal.out] at hR2
  obtain ⟨A2, c2, rfl, hc2, hC2⟩ := Kd.R_reads hR2
  have hcn : n ≤ c2 := by have := R.out.2.2.1; omega
  have hCr : Kd.C k33 w2 A2 n rows := by
    have h := Kd.C_take hC2 (m := n) (by have := R.out.2.2.1; omega)
    rw [R.out.2.2.2, ← hn.out] at h
    exact h
  have q0 : (0 : Int) ≤ (n : Int) := by omega
  have q1 : (n : Int) ≤ (c2 : Int) := by omega
  obtain ⟨Nn, hN⟩ : ∃ Nn, RowKit.Hid (Nn = al.length) := ⟨_, Lib.hid rfl⟩
  rw [← hN.out] at hc2 hC2 ⊢
  have F := Lib.hid (And.intro hb1 (And.intro hb2 (And.intro hc2 (And.intro hC2 hCr))))
  clear hb1 hb2 hg1 hg2 hat1 hat2 hR1 hR2 hc2 hC2 hCr
  go_upto_region 3 with (first
    | (go_at_call 9; refine (hpl w2 A2 c2 F.out.2.2.2.2 hcn).mono ?_; rintro e w3 ⟨rfl, hb3⟩)
    | (refine wpList_store_rowTo rfl 23 (.tmp 4) (.tmp 16) rfl rfl w3.heap.size (Row32 (shaF L) 32) rfl rfl 23 _ (heap_alloc_new w3 _) (by kernel_rfl) (by kernel_rfl) (by kernel_rfl) ?_; refine abs_list ?_; intro w4 hw4))
  have g4 : w4.heap[w3.heap.size]? = some (.cells (Row32 (shaF L) 32) 23 (0, 0)) := by rw [hw4]; exact setRow_heap _ _ _ _ _ _ (heap_alloc_new w3 _)
  have b34 : Below w3.heap.size w3 w4 := by rw [hw4]; exact below_setRow ((Below.refl _ _).alloc (Nat.le_refl _) _) (Nat.le_refl _) _
  have b24 : Below w2.heap.size w2 w4 := hb3.trans (b34.mono hb3.size)
  obtain ⟨Gb, hGb⟩ : ∃ Gb, RowKit.Hid (Gb = w3.heap.size) := ⟨_, Lib.hid rfl⟩
  rw [← hGb.out] at g4 ⊢
  have hbase : w.heap.size ≤ w2.heap.size := F.out.2.1.size
  have b4 : Below w.heap.size w w4 := F.out.2.1.trans (b24.mono hbase)
  clear hw4 b34 hb3
  have hC4 := Kd.C_below F.out.2.2.2.1 b24
  have hCr4 := Kd.C_below F.out.2.2.2.2 b24
  have hCa4 := Kd.C_below R.out.1 b4
  have hNn : Nn = n + 2 := by rw [hN.out]; exact R.out.2.2.1
  obtain ⟨ad, eA, x0, x1, x2⟩ := at_T33 hC4 (n : Int) q0 (by omega)
  cases eA
  obtain ⟨ad', eA, y0, y1, y2⟩ := at_T33 hC4 ((n : Int) + 1) (by omega) (by omega)
  cases eA
  rw [am0] at x0
  rw [am1] at y0
  simp only [Int.toNat_natCast, show ((n : Int) + 1).toNat = n + 1 by omega] at x0 y0
  have u0 : (n : Int) < (Nn : Int) := by omega
  have u1 : (n : Int) + 1 < (Nn : Int) := by omega
  have q2 : (0 : Int) ≤ (n : Int) + 1 := by omega
  have n0 : IntKind.i64.wrap ((n : Int) + 1) = (n : Int) + 1 := IntWalk.i64_in _ (by omega)
  have G := Lib.hid (And.intro g4 b4)
  have H4 := Lib.hid (And.intro hCr4 hCa4)
  clear hC4 hCr4 hCa4 hNn g4 b4 b24 x1 x2 y1 y2 am0 am1 hbase
  go_upto_region 4 with (first
    | (go_at_call 10; refine (hsm w4 _ c2 H4.out.1 hcn H4.out.2).mono ?_; rintro e w5 ⟨rfl, ⟨nd, rfl⟩⟩))
  refine start_ (n := 8) (S := (fun W => W.heap[Gb]? = some (.cells (Row32 (shaF L) 32) 23 (0, 0)) ∧ Below w.heap.size w W)) (ds := []) #[false, false, false, false, false, false, false, false] (by kernel_rfl) rfl rfl ⟨G.out.1, (pw_below_drewN G.out.2 nd).drew⟩ (fun hHeld => ?_)
  refine take_ (i := 0) (N := (some 42)) (v := digV L) (a' := ?_) #[true, false, false, false, false, false, false, false] rfl rfl (by kernel_rfl) (fun _ _ _ h => h) (Or.inl ⟨by rfl, fun W hW => yields_load _ _ (.tmp 4) W Gb 23 _ rfl rfl (load23 W _ _ hW.1)⟩) hHeld ?_ ?_
  rotate_left
  · simp only [Act.put, List.setIfInBounds_toArray, List.set_cons_zero, List.set_cons_succ, i64_w, i32_w]
    rfl
  refine pure_ (i := 1) (N := (some 43)) (v := ?_) (a' := ?_) #[true, true, false, false, false, false, false, false] rfl rfl (by kernel_rfl) (fun _ _ _ h => h) (Or.inl ⟨by rfl, ?_⟩) ?_ ?_
  rotate_left
  · intro w'
    go_simp
    with_reducible rfl
  rotate_left
  · simp only [Act.put, List.setIfInBounds_toArray, List.set_cons_zero, List.set_cons_succ, i64_w, i32_w]
    rfl
  refine one_ (i := 2) (N := some 44) #[true, true, true, false, false, false, false, false] rfl rfl (by kernel_rfl) (by decide) (fun K hK => ?_)
  refine goes_ Try.func11 (by kernel_rfl) rfl #[.slice A n c] (by rfl) rfl rfl (by (try simp only [List.map_toArray, List.map_cons, List.map_nil]); first | done | rfl) ?_
  refine (hrl _ hHeld.2).mono ?_
  rintro e w' ⟨rfl, hb⟩
  refine ⟨_, rfl, ?_⟩
  refine hK.out _ _ ⟨(hb.block _ (lt_of hHeld.1)).trans hHeld.1, hHeld.2.trans (hb.mono hHeld.2.size)⟩ (fun hHeld => ?_)
  clear hK K
  refine norm_ (a' := ?_) ?_ ?_
  rotate_left
  · show Act.put _ (some 44) _ = _
    simp only [Act.put, List.setIfInBounds_toArray, List.set_cons_zero, List.set_cons_succ, i64_w, i32_w]
    rfl
  refine pure_ (i := 3) (N := (some 45)) (v := .bool true) (a' := ?_) #[true, true, true, true, false, false, false, false] rfl rfl (by kernel_rfl) (fun _ _ _ h => h) (Or.inl ⟨by rfl, ?_⟩) ?_ ?_
  · intro w'
    exact yields_eql _ _ (.tmp 42) (.tmp 44) L rfl rfl rfl w'
  rotate_left
  · simp only [Act.put, List.setIfInBounds_toArray, List.set_cons_zero, List.set_cons_succ, i64_w, i32_w]
    rfl
  refine pure_ (i := 4) (N := (some 46)) (v := .bool true) (a' := ?_) #[true, true, true, true, true, false, false, false] rfl rfl (by kernel_rfl) (fun _ _ _ h => h) (Or.inl ⟨by rfl, ?_⟩) ?_ ?_
  · intro w'
    go_simp
  rotate_left
  · simp only [Act.put, List.setIfInBounds_toArray, List.set_cons_zero, List.set_cons_succ, i64_w, i32_w]
    rfl
  refine pure_ (i := 5) (N := (some 47)) (v := .bool true) (a' := ?_) #[true, true, true, true, true, true, false, false] rfl rfl (by kernel_rfl) (fun _ _ _ h => h) (Or.inl ⟨by rfl, ?_⟩) ?_ ?_
  · intro w'
    go_simp
  rotate_left
  · simp only [Act.put, List.setIfInBounds_toArray, List.set_cons_zero, List.set_cons_succ, i64_w, i32_w]
    rfl
  refine pure_ (i := 6) (N := (some 48)) (v := .bool true) (a' := ?_) #[true, true, true, true, true, true, true, false] rfl rfl (by kernel_rfl) (fun _ _ _ h => h) (Or.inl ⟨by rfl, ?_⟩) ?_ ?_
  · intro w'
    go_simp
  rotate_left
  · simp only [Act.put, List.setIfInBounds_toArray, List.set_cons_zero, List.set_cons_succ, i64_w, i32_w]
    rfl
  refine pure_ (i := 7) (N := (some 2)) (v := .bool true) (a' := ?_) #[true, true, true, true, true, true, true, true] rfl rfl (by kernel_rfl) (fun _ _ _ h => h) (Or.inl ⟨by rfl, ?_⟩) ?_ ?_
  · intro w'
    go_simp
  rotate_left
  · simp only [Act.put, List.setIfInBounds_toArray, List.set_cons_zero, List.set_cons_succ, i64_w, i32_w]
    rfl
  refine done_ (by kernel_rfl) ?_
  go_wp2
  go_ret
  exact ⟨rfl, hHeld.2⟩
end Go.Proofs.Ytcjhephlhgpfkaa.Sha

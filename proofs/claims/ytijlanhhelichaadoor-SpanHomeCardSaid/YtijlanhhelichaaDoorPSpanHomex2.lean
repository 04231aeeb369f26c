/- What is proved: contracts of the functions that the law uses, each under the conditions that its theorem states. Written by a program of this session: texts of the kit's print, and texts by hand for the functions that the print does not take. -/
import Derived.Test.YtijlanhhelichaaDoorPSpanHomex0
import Derived.Test.YtijlanhhelichaaDoorPSpanHomex1
namespace Go.Proofs.YtijlanhhelichaaDoor.PSpanHome
open Go.RowKit Go.Proofs.YtijlanhhelichaaDoorW.PrintWords Go.Proofs.YtijlanhhelichaaDoorW.PrintLast Go.Proofs.YtijlanhhelichaaDoorW.PrintMore
attribute [local go_sem] max2_int min2_int max_two min_two max_three min_three max_four min_four   -- for this text's walks alone
set_option linter.unusedVariables false
set_option linter.unusedSimpArgs false

/-! ### span_least: function 35 -/
def cntD (d : Int) : Int := if d = 1 then 16 else if d = 2 then 256 else 4096
def bytesD (d b : Int) : List Int := if d = 1 then [b * 16 % 256] else if d = 2 then [b % 256] else [b * 16 / 256 % 256, b * 16 % 256]
theorem abs_w {P : Program} {c : Code} {Q : Exit → Act → World → Prop} {a : Act} {w : World} (h : ∀ w', w' = w → Code.wp P c Q a w') : Code.wp P c Q a w := h w rfl
theorem strOf_size (l : List Int) : (strOfNums l).size = l.length := by simp [strOfNums, ByteArray.size]
set_option maxRecDepth 100000 in
theorem trim_any (s r : ByteArray) (w : World) (hs : 0 < s.size) (hm : s.size ≤ 9223372036854775807) (h : strings_trimRightByte.f 8 s 0 = some r) :
    Calls Tryd.prog 47 #[.string s, .string ⟨#[0]⟩] w fun e w' => e = .returned (.string r) ∧ Drawn0 w w' := by
  have he2 : (s.toList == ([] : List UInt8)) = false := by
    rw [beq_eq_false_iff_ne]
    intro e
    rw [ByteArray.toList_eq] at e
    have h1 : s.data.toList.length = s.size := by rw [Array.length_toList]; rfl
    rw [e] at h1
    simp at h1
    omega
  have he : (s == (⟨#[]⟩ : ByteArray)) = false := by
    rw [beq_toListBytes, show (⟨#[]⟩ : ByteArray).toList = [] by rw [ByteArray.toList_eq]]; exact he2
  have HS := Lib.hid (And.intro hs hm)
  go_enter Tryd.func47, Tryd.ntmps47
  go_wp2_with (first
    | (go_at_call 60; refine (strings_trimRightByte.calls 8 s 0 r _ h).mono ?_; rintro e w2 ⟨rfl, ⟨nd, rfl⟩⟩))
  go_ret
  exact ⟨rfl, ⟨_, rfl⟩⟩
set_option maxRecDepth 100000 in
set_option maxHeartbeats 8000000 in
theorem least1 (b : Int) (r : ByteArray) (w : World) (hb0 : 0 ≤ b) (hlt : b < 16) (h : strings_trimRightByte.f 8 (strOfNums [(b * 16) % 256]) 0 = some r) :
    Calls Tryd.prog 35 #[.int .i64 1, .int .i64 b] w fun e w' => e = .returned (.string r) ∧ Below w.heap.size w w' := by
  have hc : span_count.f 6 1 = some 16 := by decide +kernel
  have c0 : decide (b ≥ 16) = false := decide_eq_false (by omega)
  have c1 : ¬ (16 ≤ b) := by omega
  have n0 : wrap64 (b * 16) = b * 16 := IntWalk.wrap64_in _ (by omega)
  have n1 : IntKind.i64.wrap (b * 16) = b * 16 := IntWalk.i64_in _ (by omega)
  have HB := Lib.hid (And.intro hb0 hlt)
  have HS := Lib.hid h
  clear h hb0 hlt
  go_enter Tryd.func35, Tryd.ntmps35
  go_upto_region 8 with (first
    | (go_at_call 30; refine (span_count.calls 6 1 16 _ hc).mono ?_; rintro e w2 ⟨rfl, ⟨nd, rfl⟩⟩))
  refine abs_w ?_
  intro w1 hw1
  have hb1 : Below w.heap.size w w1 := by rw [hw1]; first | exact (pw_below_drewN (Below.refl _ _) nd).alloc (Nat.le_refl _) _ | exact pw_below_drewN ((Below.refl _ _).alloc (Nat.le_refl _) _) nd
  have g1 : w1.heap[w.heap.size]? = some (.cells #[.int .u8 0, .int .u8 0] 77 (0, 0)) := by rw [hw1]; exact heap_alloc_new w _
  have lt1 : w.heap.size < w1.heap.size := by rcases Nat.lt_or_ge w.heap.size w1.heap.size with h | h; exact h; rw [Array.getElem?_eq_none h] at g1; cases g1
  clear hw1 hc
  go_loopw [1, 6] (fun vv iv wr => (vv = .int .i64 (b * 16) ∧ iv = .int .i64 0 ∧ wr = w1) ∨ (∃ v' : Int, vv = .int .i64 v' ∧ iv = .int .i64 (-1) ∧ wr = w1.setCell ⟨w.heap.size, 0, none⟩ (.int .u8 ((b * 16) % 256)))) (fun _ iv _ => (intOf iv + 1).toNat)
  case atStart => exact .inl ⟨rfl, rfl, rfl⟩
  case round =>
    rcases hrel with ⟨rfl, rfl, rfl⟩ | ⟨v', rfl, rfl, hwr⟩
    · have cg := cell_of_row wr w.heap.size 0 _ _ _ g1
      have fg := frozen_of_row wr w.heap.size 0 _ _ g1
      go_wp2
      exact ⟨.inr ⟨_, rfl, by first | rfl | trivial⟩, by simp [intOf]⟩
    · have g2 : wr.heap[w.heap.size]? = some (.cells #[.int .u8 ((b * 16) % 256), .int .u8 0] 77 (0, 0)) := by rw [hwr]; exact heap_setCell_same w1 w.heap.size 0 _ 77 _ g1
      have b2 : Below w.heap.size w wr := by rw [hwr]; exact hb1.setCell (Nat.le_refl _) _
      have b3 := Lib.hid b2
      have kb := run_convert_bytes_arg (P := Tryd.prog) wr 80 5 Tryd.underlying80 Tryd.underlying5 w.heap.size 0 1 2 [(b * 16) % 256] rfl (fun i hi => by
        rw [cell_of_row wr w.heap.size (0 + i) _ _ _ g2]
        obtain rfl : i = 0 := by omega
        rfl) 9 Tryd.underlying9
      have hsz : (strOfNums [(b * 16) % 256]).size = 1 := strOf_size _
      obtain ⟨S, hS⟩ : ∃ S, RowKit.Hid (S = strOfNums [(b * 16) % 256]) := ⟨_, Lib.hid rfl⟩
      rw [← hS.out] at kb hsz
      have ht : RowKit.Hid (strings_trimRightByte.f 8 S 0 = some r) := Lib.hid (by rw [hS.out]; exact HS.out)
      have HZ := Lib.hid hsz
      clear hwr b2 hsz g1 hb1 
      go_wp2_with (first
        | (go_at_call 47; refine (trim_any S r _ (by rw [HZ.out]; decide) (by rw [HZ.out]; decide) ht.out).mono ?_; rintro e w3 ⟨rfl, ⟨nd3, rfl⟩⟩))
      go_ret
      exact ⟨rfl, pw_below_drewN b3.out nd3⟩
set_option maxRecDepth 100000 in
set_option maxHeartbeats 8000000 in
theorem least2 (b : Int) (r : ByteArray) (w : World) (hb0 : 0 ≤ b) (hlt : b < 256) (h : strings_trimRightByte.f 8 (strOfNums [b % 256]) 0 = some r) :
    Calls Tryd.prog 35 #[.int .i64 2, .int .i64 b] w fun e w' => e = .returned (.string r) ∧ Below w.heap.size w w' := by
  have hc : span_count.f 6 2 = some 256 := by decide +kernel
  have c0 : decide (b ≥ 256) = false := decide_eq_false (by omega)
  have c1 : ¬ (256 ≤ b) := by omega
  have HB := Lib.hid (And.intro hb0 hlt)
  have HS := Lib.hid h
  clear h hb0 hlt
  go_enter Tryd.func35, Tryd.ntmps35
  go_upto_region 8 with (first
    | (go_at_call 30; refine (span_count.calls 6 2 256 _ hc).mono ?_; rintro e w2 ⟨rfl, ⟨nd, rfl⟩⟩))
  refine abs_w ?_
  intro w1 hw1
  have hb1 : Below w.heap.size w w1 := by rw [hw1]; first | exact (pw_below_drewN (Below.refl _ _) nd).alloc (Nat.le_refl _) _ | exact pw_below_drewN ((Below.refl _ _).alloc (Nat.le_refl _) _) nd
  have g1 : w1.heap[w.heap.size]? = some (.cells #[.int .u8 0, .int .u8 0] 77 (0, 0)) := by rw [hw1]; exact heap_alloc_new w _
  have lt1 : w.heap.size < w1.heap.size := by rcases Nat.lt_or_ge w.heap.size w1.heap.size with h | h; exact h; rw [Array.getElem?_eq_none h] at g1; cases g1
  clear hw1 hc
  go_loopw [1, 6] (fun vv iv wr => (vv = .int .i64 b ∧ iv = .int .i64 0 ∧ wr = w1) ∨ (∃ v' : Int, vv = .int .i64 v' ∧ iv = .int .i64 (-1) ∧ wr = w1.setCell ⟨w.heap.size, 0, none⟩ (.int .u8 (b % 256)))) (fun _ iv _ => (intOf iv + 1).toNat)
  case atStart => exact .inl ⟨rfl, rfl, rfl⟩
  case round =>
    rcases hrel with ⟨rfl, rfl, rfl⟩ | ⟨v', rfl, rfl, hwr⟩
    · have cg := cell_of_row wr w.heap.size 0 _ _ _ g1
      have fg := frozen_of_row wr w.heap.size 0 _ _ g1
      go_wp2
      exact ⟨.inr ⟨_, rfl, by first | rfl | trivial⟩, by simp [intOf]⟩
    · have g2 : wr.heap[w.heap.size]? = some (.cells #[.int .u8 (b % 256), .int .u8 0] 77 (0, 0)) := by rw [hwr]; exact heap_setCell_same w1 w.heap.size 0 _ 77 _ g1
      have b2 : Below w.heap.size w wr := by rw [hwr]; exact hb1.setCell (Nat.le_refl _) _
      have b3 := Lib.hid b2
      have kb := run_convert_bytes_arg (P := Tryd.prog) wr 80 5 Tryd.underlying80 Tryd.underlying5 w.heap.size 0 1 2 [b % 256] rfl (fun i hi => by
        rw [cell_of_row wr w.heap.size (0 + i) _ _ _ g2]
        obtain rfl : i = 0 := by omega
        rfl) 9 Tryd.underlying9
      have hsz : (strOfNums [b % 256]).size = 1 := strOf_size _
      obtain ⟨S, hS⟩ : ∃ S, RowKit.Hid (S = strOfNums [b % 256]) := ⟨_, Lib.hid rfl⟩
      rw [← hS.out] at kb hsz
      have ht : RowKit.Hid (strings_trimRightByte.f 8 S 0 = some r) := Lib.hid (by rw [hS.out]; exact HS.out)
      have HZ := Lib.hid hsz
      clear hwr b2 hsz g1 hb1 
      go_wp2_with (first
        | (go_at_call 47; refine (trim_any S r _ (by rw [HZ.out]; decide) (by rw [HZ.out]; decide) ht.out).mono ?_; rintro e w3 ⟨rfl, ⟨nd3, rfl⟩⟩))
      go_ret
      exact ⟨rfl, pw_below_drewN b3.out nd3⟩
set_option maxRecDepth 100000 in
set_option maxHeartbeats 8000000 in
theorem least3 (b : Int) (r : ByteArray) (w : World) (hb0 : 0 ≤ b) (hlt : b < 4096) (h : strings_trimRightByte.f 8 (strOfNums [b * 16 / 256 % 256, b * 16 % 256]) 0 = some r) :
    Calls Tryd.prog 35 #[.int .i64 3, .int .i64 b] w fun e w' => e = .returned (.string r) ∧ Below w.heap.size w w' := by
  have hc : span_count.f 6 3 = some 4096 := by decide +kernel
  have c0 : decide (b ≥ 4096) = false := decide_eq_false (by omega)
  have c1 : ¬ (4096 ≤ b) := by omega
  have n0 : wrap64 (b * 16) = b * 16 := IntWalk.wrap64_in _ (by omega)
  have n1 : IntKind.i64.wrap (b * 16) = b * 16 := IntWalk.i64_in _ (by omega)
  have HB := Lib.hid (And.intro hb0 hlt)
  have HS := Lib.hid h
  clear h hb0 hlt
  go_enter Tryd.func35, Tryd.ntmps35
  go_upto_region 8 with (first
    | (go_at_call 30; refine (span_count.calls 6 3 4096 _ hc).mono ?_; rintro e w2 ⟨rfl, ⟨nd, rfl⟩⟩))
  refine abs_w ?_
  intro w1 hw1
  have hb1 : Below w.heap.size w w1 := by rw [hw1]; first | exact (pw_below_drewN (Below.refl _ _) nd).alloc (Nat.le_refl _) _ | exact pw_below_drewN ((Below.refl _ _).alloc (Nat.le_refl _) _) nd
  have g1 : w1.heap[w.heap.size]? = some (.cells #[.int .u8 0, .int .u8 0] 77 (0, 0)) := by rw [hw1]; exact heap_alloc_new w _
  have lt1 : w.heap.size < w1.heap.size := by rcases Nat.lt_or_ge w.heap.size w1.heap.size with h | h; exact h; rw [Array.getElem?_eq_none h] at g1; cases g1
  clear hw1 hc
  go_loopw [1, 6] (fun vv iv wr => (vv = .int .i64 (b * 16) ∧ iv = .int .i64 1 ∧ wr = w1) ∨ (vv = .int .i64 (b * 16 / 256) ∧ iv = .int .i64 0 ∧ wr = w1.setCell ⟨w.heap.size, 1, none⟩ (.int .u8 (b * 16 % 256))) ∨ (∃ v' : Int, vv = .int .i64 v' ∧ iv = .int .i64 (-1) ∧ wr = (w1.setCell ⟨w.heap.size, 1, none⟩ (.int .u8 (b * 16 % 256))).setCell ⟨w.heap.size, 0, none⟩ (.int .u8 (b * 16 / 256 % 256)))) (fun _ iv _ => (intOf iv + 1).toNat)
  case atStart => exact .inl ⟨rfl, rfl, rfl⟩
  case round =>
    have ga := heap_setCell_same w1 w.heap.size 1 _ 77 (.int .u8 (b * 16 % 256)) g1
    rcases hrel with ⟨rfl, rfl, rfl⟩ | ⟨rfl, rfl, hwr⟩ | ⟨v', rfl, rfl, hwr⟩
    · have cg := cell_of_row wr w.heap.size 1 _ _ _ g1
      have fg := frozen_of_row wr w.heap.size 1 _ _ g1
      clear ga
      go_wp2
      exact ⟨.inr (.inl ⟨by first | rfl | (simp; done), by first | exact ⟨rfl, rfl⟩ | rfl | trivial⟩), by simp [intOf]⟩
    · rw [← hwr] at ga
      have cg := cell_of_row wr w.heap.size 0 _ _ _ ga
      have fg := frozen_of_row wr w.heap.size 0 _ _ ga
      have HW := Lib.hid hwr
      clear hwr ga
      go_wp2
      exact ⟨.inr (.inr ⟨_, rfl, rfl, by rw [HW.out]⟩), by simp [intOf]⟩
    · have g2 : wr.heap[w.heap.size]? = some (.cells #[.int .u8 (b * 16 / 256 % 256), .int .u8 (b * 16 % 256)] 77 (0, 0)) := by rw [hwr]; exact heap_setCell_same _ w.heap.size 0 _ 77 _ ga
      have b2 : Below w.heap.size w wr := by rw [hwr]; exact (hb1.setCell (Nat.le_refl _) _).setCell (Nat.le_refl _) _
      have b3 := Lib.hid b2
      have kb := run_convert_bytes_arg (P := Tryd.prog) wr 80 5 Tryd.underlying80 Tryd.underlying5 w.heap.size 0 2 2 [b * 16 / 256 % 256, b * 16 % 256] rfl (fun i hi => by
        rw [cell_of_row wr w.heap.size (0 + i) _ _ _ g2]
        match i, hi with
        | 0, _ => rfl
        | 1, _ => rfl) 9 Tryd.underlying9
      have hsz : (strOfNums [b * 16 / 256 % 256, b * 16 % 256]).size = 2 := strOf_size _
      obtain ⟨S, hS⟩ : ∃ S, RowKit.Hid (S = strOfNums [b * 16 / 256 % 256, b * 16 % 256]) := ⟨_, Lib.hid rfl⟩
      rw [← hS.out] at kb hsz
      have ht : RowKit.Hid (strings_trimRightByte.f 8 S 0 = some r) := Lib.hid (by rw [hS.out]; exact HS.out)
      have HZ := Lib.hid hsz
      clear hwr b2 hsz g1 hb1 ga
      go_wp2_with (first
        | (go_at_call 47; refine (trim_any S r _ (by rw [HZ.out]; decide) (by rw [HZ.out]; decide) ht.out).mono ?_; rintro e w3 ⟨rfl, ⟨nd3, rfl⟩⟩))
      go_ret
      exact ⟨rfl, pw_below_drewN b3.out nd3⟩
set_option maxRecDepth 100000 in
theorem leastBig1 (b : Int) (w : World) (hb : 16 ≤ b) :
    Calls Tryd.prog 35 #[.int .i64 1, .int .i64 b] w fun e w' => e = .returned (.string ⟨#[]⟩) ∧ Below w.heap.size w w' := by
  have hc : span_count.f 6 1 = some 16 := by decide +kernel
  have c0 : decide (b ≥ 16) = true := decide_eq_true hb
  go_enter Tryd.func35, Tryd.ntmps35
  go_wp2_with (first
    | (go_at_call 30; refine (span_count.calls 6 1 16 _ hc).mono ?_; rintro e w2 ⟨rfl, ⟨nd, rfl⟩⟩))
  go_ret
  exact ⟨rfl, pw_below_drewN (Below.refl _ _) nd⟩
set_option maxRecDepth 100000 in
theorem leastBig2 (b : Int) (w : World) (hb : 256 ≤ b) :
    Calls Tryd.prog 35 #[.int .i64 2, .int .i64 b] w fun e w' => e = .returned (.string ⟨#[]⟩) ∧ Below w.heap.size w w' := by
  have hc : span_count.f 6 2 = some 256 := by decide +kernel
  have c0 : decide (b ≥ 256) = true := decide_eq_true hb
  go_enter Tryd.func35, Tryd.ntmps35
  go_wp2_with (first
    | (go_at_call 30; refine (span_count.calls 6 2 256 _ hc).mono ?_; rintro e w2 ⟨rfl, ⟨nd, rfl⟩⟩))
  go_ret
  exact ⟨rfl, pw_below_drewN (Below.refl _ _) nd⟩
set_option maxRecDepth 100000 in
theorem leastBig3 (b : Int) (w : World) (hb : 4096 ≤ b) :
    Calls Tryd.prog 35 #[.int .i64 3, .int .i64 b] w fun e w' => e = .returned (.string ⟨#[]⟩) ∧ Below w.heap.size w w' := by
  have hc : span_count.f 6 3 = some 4096 := by decide +kernel
  have c0 : decide (b ≥ 4096) = true := decide_eq_true hb
  go_enter Tryd.func35, Tryd.ntmps35
  go_wp2_with (first
    | (go_at_call 30; refine (span_count.calls 6 3 4096 _ hc).mono ?_; rintro e w2 ⟨rfl, ⟨nd, rfl⟩⟩))
  go_ret
  exact ⟨rfl, pw_below_drewN (Below.refl _ _) nd⟩
def span_least.f (a0 a1 : Int) : Option ByteArray := if (a0 = 1 ∨ a0 = 2 ∨ a0 = 3) ∧ 0 ≤ a1 then (if cntD a0 ≤ a1 then some ⟨#[]⟩ else strings_trimRightByte.f 8 (strOfNums (bytesD a0 a1)) 0) else none
theorem span_least.calls (a0 a1 : Int) (r : ByteArray) (w : World) (h : span_least.f a0 a1 = some r) :
    Calls Tryd.prog 35 #[.int .i64 a0, .int .i64 a1] w fun e w' => e = .returned (.string r) ∧ Below w.heap.size w w' := by
  unfold span_least.f at h
  split at h
  · rename_i hd
    obtain ⟨hd, hb⟩ := hd
    split at h
    · rename_i hc
      injection h with h
      subst h
      rcases hd with rfl | rfl | rfl
      · exact leastBig1 a1 w hc
      · exact leastBig2 a1 w hc
      · exact leastBig3 a1 w hc
    · rename_i hc
      rcases hd with rfl | rfl | rfl
      · exact least1 a1 r w hb (Int.not_le.1 hc) h
      · exact least2 a1 r w hb (Int.not_le.1 hc) h
      · exact least3 a1 r w hb (Int.not_le.1 hc) h
  · cases h

/-! ### span_Of: function 10 -/
def span_Of.j0 : Nat → Int → Int → Bool → Option (ByteArray × ByteArray × Int)
  | 0, _, _, _ => none
  | k + 1, x0, x1, x18 => if x18 = true then (some ((⟨#[]⟩ : ByteArray), (⟨#[]⟩ : ByteArray), 62)) else ((span_least.f x0 x1).bind fun t109 => ((span_least.f x0 (wrap64 (x1 + 1))).bind fun t110 => (some (t109, t110, 0))))
def span_Of.f (k : Nat) (a0 : Int) (a1 : Int) : Option (ByteArray × ByteArray × Int) := (span_count.f k a0).bind fun t108 => (if t108 = 0 then (some ((⟨#[]⟩ : ByteArray), (⟨#[]⟩ : ByteArray), 61)) else (if a1 < 0 then (span_Of.j0 k a0 a1 true) else (span_Of.j0 k a0 a1 (decide (a1 ≥ t108)))))
theorem span_Of.mono_l : ∀ k, (∀ y0 y1 y2, LeO (span_Of.j0 k y0 y1 y2) (span_Of.j0 (k + 1) y0 y1 y2))
  | 0 => fun _ _ _ r h => by simp [span_Of.j0] at h
  | k + 1 => by
    have ih0 := span_Of.mono_l k
    · intro y0 y1 y2
      unfold span_Of.j0
      repeat' first
      | (with_reducible exact ih0 _ _ _)
      | (with_reducible exact span_count.mono _ _)
      | (with_reducible exact LeO.refl _)
      | (with_reducible exact LeO.none _)
      | (with_reducible refine LeO.ite ?_ ?_)
      | (with_reducible refine LeO.bind ?_ (fun _ => ?_))
      | exact ih0 _ _ _
      | exact span_count.mono _ _
      | exact LeO.none _
      | refine LeO.ite ?_ ?_
      | refine LeO.bind ?_ (fun _ => ?_)
theorem span_Of.mono : ∀ a0 a1 k, LeO (span_Of.f k a0 a1) (span_Of.f (k + 1) a0 a1) := by
  intro a0 a1 k
  have ih0 := span_Of.mono_l k
  unfold span_Of.f
  repeat' first
      | (with_reducible exact ih0 _ _ _)
      | (with_reducible exact span_count.mono _ _)
      | (with_reducible exact LeO.refl _)
      | (with_reducible exact LeO.none _)
      | (with_reducible refine LeO.ite ?_ ?_)
      | (with_reducible refine LeO.bind ?_ (fun _ => ?_))
      | exact ih0 _ _ _
      | exact span_count.mono _ _
      | exact LeO.none _
      | refine LeO.ite ?_ ?_
      | refine LeO.bind ?_ (fun _ => ?_)
set_option maxHeartbeats 8000000 in
set_option maxRecDepth 100000 in
theorem span_Of.calls (k : Nat) (a0 : Int) (a1 : Int) (r1 : ByteArray) (r2 : ByteArray) (r3 : Int) (w : World) (h : span_Of.f k a0 a1 = some (r1, r2, r3)) :
    Calls Tryd.prog 10 #[.int .i64 a0, .int .i64 a1] w fun e w' => e = .returned (.tuple #[.agg #[.string r1, .string r2], .int .i64 r3]) ∧ Below w.heap.size w w' := by
  have hu28 := Tryd.underlying28
  have HB := Aside0.mk (Below.refl w.heap.size w)
  have H : ((span_count.f k a0).bind fun t108 => (if t108 = 0 then (some ((⟨#[]⟩ : ByteArray), (⟨#[]⟩ : ByteArray), 61)) else (if a1 < 0 then (span_Of.j0 k a0 a1 true) else (span_Of.j0 k a0 a1 (decide (a1 ≥ t108)))))) = some (r1, r2, r3) := h
  clear h
  replace H := Option.bind_eq_some_iff.mp H
  obtain ⟨t108, A30, H⟩ := H
  replace H : (if t108 = 0 then (some ((⟨#[]⟩ : ByteArray), (⟨#[]⟩ : ByteArray), 61)) else (if a1 < 0 then (span_Of.j0 k a0 a1 true) else (span_Of.j0 k a0 a1 (decide (a1 ≥ t108))))) = some (r1, r2, r3) := H
  have A3 := Aside0.mk A30
  clear A30
  by_cases c4 : t108 = 0
  · rw [if_pos c4] at H
    have c4b0 : (t108 == 0) = true := beq_iff_eq.mpr c4
    have c4b1 : (t108 != 0) = false := bne_eq_false_iff_eq.mpr c4
    clear c4
    simp only [Option.some.injEq, Prod.mk.injEq] at H
    obtain ⟨rfl, rfl, rfl⟩ := H
    go_enter Tryd.func10, Tryd.ntmps10
    go_wp2_with (first | ((with_reducible refine gate_dst (N := 4) rfl ?_); refine box_event ?hg (N := 4) ?hd (cs := #[.string (⟨#[]⟩ : ByteArray), .string (⟨#[]⟩ : ByteArray)]) (t := 28) ?hr ?_; (case hd => rfl); (case hg => rfl); (case hr => first | (go_simp; done) | (go_simp; rfl)); intro gb107 hg w5 hbox hb; have n0_ := Aside0.mk (below_step (by repeat (first | (with_reducible first | exact HB.out | apply below_alloc | apply pw_below_drewN | apply below_drew1) | exact HB.out)) hb); have n1_ := Aside0.mk (hbox); have n2_ := Aside0.mk ((by rw [hg]; exact (below_size (by repeat (first | (with_reducible first | exact HB.out | apply below_alloc | apply pw_below_drewN | apply below_drew1) | exact HB.out))) : w.heap.size ≤ gb107)); have n3_ := Aside0.mk ((by rw [hg]; exact (below_size (by repeat (first | (with_reducible first | exact HB.out | apply below_alloc | apply pw_below_drewN | apply below_drew1) | exact HB.out))) : w.heap.size ≤ gb107)); clear HB; have HB := n0_; have BK107 := n1_; have GW107 := n2_; have GE107 := n3_; clear n0_ n1_ n2_ n3_; clear hb hbox hg) | ((with_reducible refine gate_callee (f := 30) rfl ?_); refine goesL_ (some 8) rfl rfl Tryd.func30 (by kernel_rfl) rfl #[.int .i64 a0] rfl (by (try simp only [List.map_toArray, List.map_cons, List.map_nil]); first | done | rfl | (simp only [List.length_drop, List.length_take]; rfl)) ?_; (with_reducible refine (span_count.calls k a0 t108 _ A3.out).mono ?_); rintro e w' ⟨rfl, ⟨nd, rfl⟩⟩; refine ⟨_, rfl, ?_⟩; (try (rw [drewN_self w5]; generalize hq_ : World.drewN w5 _ = w5; have n0_ : Aside0 (w5.heap[gb107]? = some (.cells #[.string (⟨#[]⟩ : ByteArray), .string (⟨#[]⟩ : ByteArray)] 28 (0, 0))) := ⟨by rw [← hq_]; exact (by (with_reducible repeat (first | refine blk_drewN ?_ _ | refine blk_drew ?_ | refine blk_alloc ?_ _)); exact BK107.out)⟩; have n1_ : Aside0 (Below w.heap.size w w5) := ⟨by rw [← hq_]; exact (by repeat (first | (with_reducible first | exact HB.out | apply below_alloc | apply pw_below_drewN | apply below_drew1 | refine below_set ?_ GE107.out) | exact HB.out))⟩; clear BK107 HB hq_; have BK107 := n0_; have HB := n1_; clear n0_ n1_)); have hcz6_0 : w5.cell? ⟨gb107, 0, none⟩ = some (.string (⟨#[]⟩ : ByteArray)) := (blk_cell BK107.out 0).trans rfl; have hcz6_1 : w5.cell? ⟨gb107, 1, none⟩ = some (.string (⟨#[]⟩ : ByteArray)) := (blk_cell BK107.out 1).trans rfl; have hfz6_0 := blk_frozen BK107.out 0; have hfz6_1 := blk_frozen BK107.out 1))
    refine bodyPost_ret (results_ct rfl _ _ gb107 28 #[.string (⟨#[]⟩ : ByteArray), .string (⟨#[]⟩ : ByteArray)] (0, 0) _ rfl (by (with_reducible repeat (first | refine blk_drewN ?_ _ | refine blk_drew ?_ | refine blk_alloc ?_ _)); refine blk_put (cs := #[.string (⟨#[]⟩ : ByteArray), .string (⟨#[]⟩ : ByteArray)]) ?_ 1 _ rfl; (with_reducible repeat (first | refine blk_drewN ?_ _ | refine blk_drew ?_ | refine blk_alloc ?_ _)); refine blk_put (cs := #[.string (⟨#[]⟩ : ByteArray), .string (⟨#[]⟩ : ByteArray)]) ?_ 0 _ rfl; (with_reducible repeat (first | refine blk_drewN ?_ _ | refine blk_drew ?_ | refine blk_alloc ?_ _)); exact BK107.out) Tryd.underlying28 rfl (by kernel_rfl)) rfl ?_
    exact ⟨by first | rfl | (simp [errW_none, errW_some] <;> rfl) | (simp [*, errW_none, errW_some] <;> rfl), by repeat (first | (with_reducible first | exact HB.out | apply below_alloc | apply pw_below_drewN | apply below_drew1 | refine below_set ?_ GE107.out) | exact HB.out)⟩
  · rw [if_neg c4] at H
    have c4b0 : (t108 == 0) = false := beq_eq_false_iff_ne.mpr c4
    have c4b1 : (t108 != 0) = true := bne_iff_ne.mpr c4
    have HC7 := Aside0.mk H
    clear H
    go_enter Tryd.func10, Tryd.ntmps10
    go_upto_region 4 with (first | ((with_reducible refine gate_dst (N := 4) rfl ?_); refine box_event ?hg (N := 4) ?hd (cs := #[.string (⟨#[]⟩ : ByteArray), .string (⟨#[]⟩ : ByteArray)]) (t := 28) ?hr ?_; (case hd => rfl); (case hg => rfl); (case hr => first | (go_simp; done) | (go_simp; rfl)); intro gb107 hg w8 hbox hb; have n0_ := Aside0.mk (below_step (by repeat (first | (with_reducible first | exact HB.out | apply below_alloc | apply pw_below_drewN | apply below_drew1) | exact HB.out)) hb); have n1_ := Aside0.mk (hbox); have n2_ := Aside0.mk ((by rw [hg]; exact (below_size (by repeat (first | (with_reducible first | exact HB.out | apply below_alloc | apply pw_below_drewN | apply below_drew1) | exact HB.out))) : w.heap.size ≤ gb107)); have n3_ := Aside0.mk ((by rw [hg]; exact (below_size (by repeat (first | (with_reducible first | exact HB.out | apply below_alloc | apply pw_below_drewN | apply below_drew1) | exact HB.out))) : w.heap.size ≤ gb107)); clear HB; have HB := n0_; have BK107 := n1_; have GW107 := n2_; have GE107 := n3_; clear n0_ n1_ n2_ n3_; clear hb hbox hg) | ((with_reducible refine gate_callee (f := 30) rfl ?_); refine goesL_ (some 8) rfl rfl Tryd.func30 (by kernel_rfl) rfl #[.int .i64 a0] rfl (by (try simp only [List.map_toArray, List.map_cons, List.map_nil]); first | done | rfl | (simp only [List.length_drop, List.length_take]; rfl)) ?_; (with_reducible refine (span_count.calls k a0 t108 _ A3.out).mono ?_); rintro e w' ⟨rfl, ⟨nd, rfl⟩⟩; refine ⟨_, rfl, ?_⟩))
    (try simp only [Act.put, List.setIfInBounds_toArray, List.set_cons_zero, List.set_cons_succ])
    go_cut [18] (fun v18 wc => ∃ (kq : Nat) (x18_6 : Bool), v18 = .bool x18_6 ∧ Aside0 (span_Of.j0 kq a0 a1 x18_6 = some (r1, r2, r3)) ∧ Aside0 (kq ≤ k) ∧ Aside0 (wc.heap[gb107]? = some (.cells #[.string (⟨#[]⟩ : ByteArray), .string (⟨#[]⟩ : ByteArray)] 28 (0, 0))) ∧ Aside0 (Below w.heap.size w wc))
    case first =>
      have H := HC7.out
      clear HC7
      by_cases c9 : a1 < 0
      · rw [if_pos c9] at H
        have c9b0 : decide (a1 < 0) = true := decide_eq_true c9
        clear c9
        (first | rw [c9b0] | (simp only [i64_w, i32_w]; rw [c9b0]) | skip)
        have H' := Aside0.mk H
        clear H
        go_wp2
        go_meet
        case rel => exact ⟨_, (true), (by first | rfl | (simp; done) | (simp [*]; done)), H', ⟨by first | omega | exact Nat.le_refl _⟩, ⟨by (with_reducible repeat (first | refine blk_drewN ?_ _ | refine blk_drew ?_ | refine blk_alloc ?_ _)); exact BK107.out⟩, ⟨by repeat (first | (with_reducible first | exact HB.out | apply below_alloc | apply pw_below_drewN | apply below_drew1 | refine below_set ?_ GE107.out) | exact HB.out)⟩⟩
      · rw [if_neg c9] at H
        have c9b0 : decide (a1 < 0) = false := decide_eq_false c9
        clear c9
        (first | rw [c9b0] | (simp only [i64_w, i32_w]; rw [c9b0]) | skip)
        have H' := Aside0.mk H
        clear H
        go_wp2
        go_meet
        case rel => exact ⟨_, (decide (a1 ≥ t108)), (by first | rfl | (simp; done) | (simp [*]; done)), H', ⟨by first | omega | exact Nat.le_refl _⟩, ⟨by (with_reducible repeat (first | refine blk_drewN ?_ _ | refine blk_drew ?_ | refine blk_alloc ?_ _)); exact BK107.out⟩, ⟨by repeat (first | (with_reducible first | exact HB.out | apply below_alloc | apply pw_below_drewN | apply below_drew1 | refine below_set ?_ GE107.out) | exact HB.out)⟩⟩
    case rest =>
      clear HC7
      try clear c1
      try clear p2
      try clear c3
      try clear c4
      try clear c4b0
      try clear c4b1
      try clear c9
      try clear c9b0
      try clear hcz6_0
      try clear hcz6_1
      try clear hfz6_0
      try clear hfz6_1
      obtain ⟨kq, x18_6, rfl, HA, HJ6, BK107, HB⟩ := hcut
      cases kq with
      | zero => exact absurd HA.out (by simp [span_Of.j0])
      | succ kj6 =>
        have H := HA.out
        clear HA
        simp only [span_Of.j0] at H
        by_cases c10 : x18_6 = true
        · subst c10
          have H1 : (some ((⟨#[]⟩ : ByteArray), (⟨#[]⟩ : ByteArray), 62)) = some (r1, r2, r3) := by rw [if_pos rfl] at H; exact H
          clear H
          have H := H1
          clear H1
          simp only [Option.some.injEq, Prod.mk.injEq] at H
          obtain ⟨rfl, rfl, rfl⟩ := H
          have hcz11_0 : wc.cell? ⟨gb107, 0, none⟩ = some (.string (⟨#[]⟩ : ByteArray)) := (blk_cell BK107.out 0).trans rfl
          have hcz11_1 : wc.cell? ⟨gb107, 1, none⟩ = some (.string (⟨#[]⟩ : ByteArray)) := (blk_cell BK107.out 1).trans rfl
          have hfz11_0 := blk_frozen BK107.out 0
          have hfz11_1 := blk_frozen BK107.out 1
          go_wp2
          refine bodyPost_ret (results_ct rfl _ _ gb107 28 #[.string (⟨#[]⟩ : ByteArray), .string (⟨#[]⟩ : ByteArray)] (0, 0) _ rfl (by (with_reducible repeat (first | refine blk_drewN ?_ _ | refine blk_drew ?_ | refine blk_alloc ?_ _)); refine blk_put (cs := #[.string (⟨#[]⟩ : ByteArray), .string (⟨#[]⟩ : ByteArray)]) ?_ 1 _ rfl; (with_reducible repeat (first | refine blk_drewN ?_ _ | refine blk_drew ?_ | refine blk_alloc ?_ _)); refine blk_put (cs := #[.string (⟨#[]⟩ : ByteArray), .string (⟨#[]⟩ : ByteArray)]) ?_ 0 _ rfl; (with_reducible repeat (first | refine blk_drewN ?_ _ | refine blk_drew ?_ | refine blk_alloc ?_ _)); exact BK107.out) Tryd.underlying28 rfl (by kernel_rfl)) rfl ?_
          exact ⟨by first | rfl | (simp [errW_none, errW_some] <;> rfl) | (simp [*, errW_none, errW_some] <;> rfl), by repeat (first | (with_reducible first | exact HB.out | apply below_alloc | apply pw_below_drewN | apply below_drew1 | refine below_set ?_ GE107.out) | exact HB.out)⟩
        · replace c10 := Bool.eq_false_iff.mpr c10
          subst c10
          have H1 : ((span_least.f a0 a1).bind fun t109 => ((span_least.f a0 (wrap64 (a1 + 1))).bind fun t110 => (some (t109, t110, 0)))) = some (r1, r2, r3) := by rw [if_neg (show ¬ (false = true) by decide)] at H; exact H
          clear H
          have H := H1
          clear H1
          replace H := Option.bind_eq_some_iff.mp H
          obtain ⟨t109, A120, H⟩ := H
          replace H : ((span_least.f a0 (wrap64 (a1 + 1))).bind fun t110 => (some (t109, t110, 0))) = some (r1, r2, r3) := H
          have A12 := Aside0.mk A120
          clear A120
          replace H := Option.bind_eq_some_iff.mp H
          obtain ⟨t110, A130, H⟩ := H
          replace H : (some (t109, t110, 0)) = some (r1, r2, r3) := H
          have A13 := Aside0.mk A130
          clear A130
          simp only [Option.some.injEq, Prod.mk.injEq] at H
          obtain ⟨rfl, rfl, rfl⟩ := H
          go_wp2_with (first | ((with_reducible refine gate_callee (f := 35) rfl ?_); refine goesL_ (some 22) rfl rfl Tryd.func35 (by kernel_rfl) rfl #[.int .i64 a0, .int .i64 a1] rfl (by (try simp only [List.map_toArray, List.map_cons, List.map_nil]); first | done | rfl | (simp only [List.length_drop, List.length_take]; rfl)) ?_; (with_reducible refine (span_least.calls a0 a1 t109 _ A12.out).mono ?_); rintro e w14 ⟨rfl, hb⟩; refine ⟨_, rfl, ?_⟩; have n0_ := Aside0.mk (blk_below (g := gb107) (o := .cells #[.string (⟨#[]⟩ : ByteArray), .string (⟨#[]⟩ : ByteArray)] 28 (0, 0)) (by (with_reducible repeat (first | refine blk_drewN ?_ _ | refine blk_drew ?_ | refine blk_alloc ?_ _)); exact BK107.out) hb); have n1_ := Aside0.mk (below_step (by repeat (first | (with_reducible first | exact HB.out | apply below_alloc | apply pw_below_drewN | apply below_drew1 | refine below_set ?_ GE107.out) | exact HB.out)) hb); clear BK107; clear HB; have BK107 := n0_; have HB := n1_; clear n0_ n1_; (try clear hb); (try clear hb2); (try clear hk); (try clear hi)) | ((with_reducible refine gate_callee (f := 35) rfl ?_); refine goesL_ (some 26) rfl rfl Tryd.func35 (by kernel_rfl) rfl #[.int .i64 a0, .int .i64 (wrap64 (a1 + 1))] rfl (by (try simp only [List.map_toArray, List.map_cons, List.map_nil]); first | done | rfl | (simp only [List.length_drop, List.length_take]; rfl)) ?_; (with_reducible refine (span_least.calls a0 (wrap64 (a1 + 1)) t110 _ A13.out).mono ?_); rintro e w15 ⟨rfl, hb⟩; refine ⟨_, rfl, ?_⟩; have n0_ := Aside0.mk (blk_below (g := gb107) (o := .cells #[.string (⟨#[]⟩ : ByteArray), .string (⟨#[]⟩ : ByteArray)] 28 (0, 0)) (by (with_reducible repeat (first | refine blk_drewN ?_ _ | refine blk_drew ?_ | refine blk_alloc ?_ _)); exact BK107.out) hb); have n1_ := Aside0.mk (below_step (by repeat (first | (with_reducible first | exact HB.out | apply below_alloc | apply pw_below_drewN | apply below_drew1 | refine below_set ?_ GE107.out) | exact HB.out)) hb); clear BK107; clear HB; have BK107 := n0_; have HB := n1_; clear n0_ n1_; (try clear hb); (try clear hb2); (try clear hk); (try clear hi); have hcz16_0 : w15.cell? ⟨gb107, 0, none⟩ = some (.string (⟨#[]⟩ : ByteArray)) := (blk_cell BK107.out 0).trans rfl; have hcz16_1 : w15.cell? ⟨gb107, 1, none⟩ = some (.string (⟨#[]⟩ : ByteArray)) := (blk_cell BK107.out 1).trans rfl; have hfz16_0 := blk_frozen BK107.out 0; have hfz16_1 := blk_frozen BK107.out 1))
          refine bodyPost_ret (results_ct rfl _ _ gb107 28 #[.string t109, .string t110] (0, 0) _ rfl (by (with_reducible repeat (first | refine blk_drewN ?_ _ | refine blk_drew ?_ | refine blk_alloc ?_ _)); refine blk_put (cs := #[.string t109, .string (⟨#[]⟩ : ByteArray)]) ?_ 1 _ rfl; (with_reducible repeat (first | refine blk_drewN ?_ _ | refine blk_drew ?_ | refine blk_alloc ?_ _)); refine blk_put (cs := #[.string (⟨#[]⟩ : ByteArray), .string (⟨#[]⟩ : ByteArray)]) ?_ 0 _ rfl; (with_reducible repeat (first | refine blk_drewN ?_ _ | refine blk_drew ?_ | refine blk_alloc ?_ _)); exact BK107.out) Tryd.underlying28 rfl (by kernel_rfl)) rfl ?_
          exact ⟨by first | rfl | (simp [errW_none, errW_some] <;> rfl) | (simp [*, errW_none, errW_some] <;> rfl), by repeat (first | (with_reducible first | exact HB.out | apply below_alloc | apply pw_below_drewN | apply below_drew1 | refine below_set ?_ GE107.out) | exact HB.out)⟩

-- NOT PRINTED: function 48 (api_Range_48)

-- NOT PRINTED: function 64 (api_Range_64)

-- NOT PRINTED: function 49 (api_Range_49)

/-! ### span_Empty: function 50 -/
def span_Empty.f (a0_0 : ByteArray) (a0_1 : ByteArray) : Option (Bool) := if a0_1.toList = ([] : List UInt8) then (some false) else (some (!(Op.bytesLess a0_0.toList a0_1.toList)))
set_option maxHeartbeats 8000000 in
set_option maxRecDepth 100000 in
theorem span_Empty.calls (a0_0 : ByteArray) (a0_1 : ByteArray) (r : Bool) (w : World) (h : span_Empty.f a0_0 a0_1 = some r) :
    Calls Tryd.prog 50 #[.agg #[.string a0_0, .string a0_1]] w fun e w' => e = .returned (.bool r) ∧ Below w.heap.size w w' := by
  have hu28 := Tryd.underlying28
  have HB := Aside0.mk (Below.refl w.heap.size w)
  have H : (if a0_1.toList = ([] : List UInt8) then (some false) else (some (!(Op.bytesLess a0_0.toList a0_1.toList)))) = some r := h
  clear h
  by_cases c2 : a0_1.toList = ([] : List UInt8)
  · rw [if_pos c2] at H
    have c2b0 : (a0_1.toList == ([] : List UInt8)) = true := beq_iff_eq.mpr c2
    have c2b1 : (a0_1.toList != ([] : List UInt8)) = false := bne_eq_false_iff_eq.mpr c2
    clear c2
    obtain rfl := Option.some.inj H
    go_enter Tryd.func50, Tryd.ntmps50
    go_wp2_with (first | ((with_reducible refine gate_dst (N := 1) rfl ?_); refine box_event ?hg (N := 1) ?hd (cs := #[.string a0_0, .string a0_1]) (t := 28) ?hr ?_; (case hd => rfl); (case hg => rfl); (case hr => first | (go_simp; done) | (go_simp; rfl)); intro gb111 hg w3 hbox hb; have n0_ := Aside0.mk (below_step (by repeat (first | (with_reducible first | exact HB.out | apply below_alloc | apply pw_below_drewN | apply below_drew1) | exact HB.out)) hb); have n1_ := Aside0.mk (hbox); have n2_ := Aside0.mk ((by rw [hg]; exact (below_size (by repeat (first | (with_reducible first | exact HB.out | apply below_alloc | apply pw_below_drewN | apply below_drew1) | exact HB.out))) : w.heap.size ≤ gb111)); have n3_ := Aside0.mk ((by rw [hg]; exact (below_size (by repeat (first | (with_reducible first | exact HB.out | apply below_alloc | apply pw_below_drewN | apply below_drew1) | exact HB.out))) : w.heap.size ≤ gb111)); clear HB; have HB := n0_; have BK111 := n1_; have GW111 := n2_; have GE111 := n3_; clear n0_ n1_ n2_ n3_; clear hb hbox hg; have hcz4_0 : w3.cell? ⟨gb111, 0, none⟩ = some (.string a0_0) := (blk_cell BK111.out 0).trans rfl; have hcz4_1 : w3.cell? ⟨gb111, 1, none⟩ = some (.string a0_1) := (blk_cell BK111.out 1).trans rfl; have hfz4_0 := blk_frozen BK111.out 0; have hfz4_1 := blk_frozen BK111.out 1))
    go_ret
    exact ⟨by first | rfl | (simp [errW_none, errW_some] <;> rfl) | (simp [*, errW_none, errW_some] <;> rfl), by repeat (first | (with_reducible first | exact HB.out | apply below_alloc | apply pw_below_drewN | apply below_drew1 | refine below_set ?_ GE111.out) | exact HB.out)⟩
  · rw [if_neg c2] at H
    have c2b0 : (a0_1.toList == ([] : List UInt8)) = false := beq_eq_false_iff_ne.mpr c2
    have c2b1 : (a0_1.toList != ([] : List UInt8)) = true := bne_iff_ne.mpr c2
    obtain rfl := Option.some.inj H
    go_enter Tryd.func50, Tryd.ntmps50
    go_wp2_with (first | ((with_reducible refine gate_dst (N := 1) rfl ?_); refine box_event ?hg (N := 1) ?hd (cs := #[.string a0_0, .string a0_1]) (t := 28) ?hr ?_; (case hd => rfl); (case hg => rfl); (case hr => first | (go_simp; done) | (go_simp; rfl)); intro gb111 hg w5 hbox hb; have n0_ := Aside0.mk (below_step (by repeat (first | (with_reducible first | exact HB.out | apply below_alloc | apply pw_below_drewN | apply below_drew1) | exact HB.out)) hb); have n1_ := Aside0.mk (hbox); have n2_ := Aside0.mk ((by rw [hg]; exact (below_size (by repeat (first | (with_reducible first | exact HB.out | apply below_alloc | apply pw_below_drewN | apply below_drew1) | exact HB.out))) : w.heap.size ≤ gb111)); have n3_ := Aside0.mk ((by rw [hg]; exact (below_size (by repeat (first | (with_reducible first | exact HB.out | apply below_alloc | apply pw_below_drewN | apply below_drew1) | exact HB.out))) : w.heap.size ≤ gb111)); clear HB; have HB := n0_; have BK111 := n1_; have GW111 := n2_; have GE111 := n3_; clear n0_ n1_ n2_ n3_; clear hb hbox hg; have hcz6_0 : w5.cell? ⟨gb111, 0, none⟩ = some (.string a0_0) := (blk_cell BK111.out 0).trans rfl; have hcz6_1 : w5.cell? ⟨gb111, 1, none⟩ = some (.string a0_1) := (blk_cell BK111.out 1).trans rfl; have hfz6_0 := blk_frozen BK111.out 0; have hfz6_1 := blk_frozen BK111.out 1))
    go_ret
    exact ⟨by first | rfl | (simp [errW_none, errW_some] <;> rfl) | (simp [*, errW_none, errW_some] <;> rfl), by repeat (first | (with_reducible first | exact HB.out | apply below_alloc | apply pw_below_drewN | apply below_drew1 | refine below_set ?_ GE111.out) | exact HB.out)⟩

-- NOT PRINTED: function 77 (api_Range_77)

-- NOT PRINTED: function 99 (api_Range_99)

-- NOT PRINTED: function 78 (api_Range_78)

/-! ### bits_Len32: function 85 -/

/-! ### bits_Len64: function 86 -/

/-! ### bits_Len: function 66 -/

/-! ### slices_nextPowerOfTwo: function 100 -/

-- NOT PRINTED: function 101 (slices_xorshift_Next)

-- NOT PRINTED: function 79 (api_Range_79)

-- NOT PRINTED: function 115 (api_Range_115)

-- NOT PRINTED: function 103 (api_Range_103)

-- NOT PRINTED: function 102 (api_Range_102)

-- NOT PRINTED: function 80 (api_Range_80)

-- NOT PRINTED: function 81 (api_Range_81)

-- NOT PRINTED: function 82 (api_Range_82)

-- NOT PRINTED: function 83 (api_Range_83)

-- NOT PRINTED: function 84 (api_Range_84)

-- NOT PRINTED: function 65 (api_Range_65)

-- NOT PRINTED: function 51 (api_Range_51)

/-! ### span_merged: function 38 -/
open Go.Shelf Go.Lib Go.Sort in
def encR (x : S28) : List Value := [.string x.f0, .string x.f1]
instance instInhR : Inhabited S28 := ⟨⟨⟨#[]⟩, ⟨#[]⟩⟩⟩
def rB : S28 := ⟨⟨#[98]⟩, ⟨#[99]⟩⟩
def rA : S28 := ⟨⟨#[97]⟩, ⟨#[98]⟩⟩
def rC : S28 := ⟨⟨#[97]⟩, ⟨#[99]⟩⟩
theorem abs_m {P : Program} {c : Code} {Q : Exit → Act → World → Prop} {a : Act} {w : World} (h : ∀ w', w' = w → Code.wp P c Q a w') : Code.wp P c Q a w := h w rfl
open Go.Shelf Go.Lib Go.Sort in
set_option maxHeartbeats 1000000 in
theorem clo (x y : S28) (W : World) : Calls Tryd.prog 52 #[.agg #[.string x.f0, .string x.f1], .agg #[.string y.f0, .string y.f1]] W fun e w' => e = .returned (.int .i64 (Lib.compareBytes x.f0.data.toList y.f0.data.toList)) ∧ ∃ q os', w' = grow (W.drewN q) os' := by
  have hcon := fun W' => Any.strings_Compare Tryd.cmpS x.f0 y.f0 W'
  change ∀ W', Calls Tryd.prog 53 _ _ _ at hcon
  generalize Lib.compareBytes x.f0.data.toList y.f0.data.toList = r at hcon ⊢
  go_enter Tryd.func52, Tryd.ntmps52
  go_wp2_with (go_at_call 53; refine (hcon _).mono ?_; rintro e w' ⟨rfl, rfl⟩)
  go_ret
  exact ⟨rfl, 0, _, by rw [alloc_eq_grow, alloc_eq_grow, grow_grow]; rfl⟩
open Go.Shelf Go.Lib Go.Sort in
theorem hlen (n : Nat) (W : World) (h : n ≤ 12) : Calls Tryd.prog 66 #[.int .u64 n] W fun e w' => (∃ l : Int, e = .returned (.int .i64 l)) ∧ w' = W :=
  (Any.bits_Len Tryd.blen n W (by omega) (by omega)).mono fun _ _ ⟨he, hw⟩ => ⟨⟨_, he⟩, hw⟩
open Go.Shelf Go.Lib Go.Sort in
theorem sorted2 : Sort.insertionSort (ltOf fun x y : S28 => Lib.compareBytes x.f0.data.toList y.f0.data.toList) #[rB, rA] 0 2 = #[rA, rB] := by kernel_rfl
open Go.Shelf Go.Lib Go.Sort in
theorem sort2 (w : World) (blk cap : Nat) (hH : HoldsK encR 2 w blk 0 #[rB, rA]) (hblk : blk < w.heap.size) :
    Calls Tryd.prog 51 #[.slice (some ⟨blk, 0, none⟩) 2 cap, .func (.func 52) #[] #[]] w fun e w' => e = .returned (.tuple #[]) ∧ ∃ n os, w' = sortWorldK encR 2 w blk 0 n #[rA, rB] os := by
  have eg : ∀ args w, (callFunc 52 args).run Tryd.prog w = .ok (.enter 52 args) w := enters_of Tryd.func52 (by kernel_rfl) rfl
  have hcon := AnyQ.slices_SortFunc_small Tryd.sortR 2 Tryd.isAgg28 Tryd.sizeOf28 encR (fun _ => rfl) (fun x v hv => by simp [encR] at hv; rcases hv with rfl | rfl <;> rfl) (fun x y => Lib.compareBytes x.f0.data.toList y.f0.data.toList) 52 #[] blk 0 cap #[rB, rA] w eg (fun _ _ _ _ x y => clo x y _) hH hblk (by decide) hlen
  change Calls Tryd.prog 51 _ _ _ at hcon
  refine hcon.mono ?_
  rintro e w' ⟨rfl, n, os, rfl⟩
  exact ⟨rfl, n, os, by rw [show (#[rB, rA] : Array S28).size = 2 from rfl, sorted2]⟩
open Go.Shelf Go.Lib Go.Sort in
theorem sort_below {w : World} {base blk n : Nat} {d : Array S28} {os : Array Obj} (hb : base ≤ blk) (hs : base ≤ w.heap.size) : Go.RowKit.Below base w (sortWorldK encR 2 w blk 0 n d os) := by
  refine ⟨rfl, rfl, rfl, size_sortWorldK_c encR 2 w blk 0 n d os, fun k hk => ?_⟩
  unfold sortWorldK grow putRowK putRow mapBlock
  simp only
  have hz : (Sort.ahead w n).heap = w.heap := rfl
  rw [hz, Array.getElem?_append_left (by simp; omega), Array.getElem?_modify, if_neg (by omega)]
theorem emp (x : S28) (h : span_Empty.f x.f0 x.f1 = some false) (W : World) : Calls Tryd.prog 50 #[.agg #[.string x.f0, .string x.f1]] W fun e w' => e = .returned (.bool false) ∧ Below W.heap.size W w' := span_Empty.calls x.f0 x.f1 false W h
theorem empB (W : World) : Calls Tryd.prog 50 #[.agg #[.string ⟨#[98]⟩, .string ⟨#[99]⟩]] W fun e w' => e = .returned (.bool false) ∧ Below W.heap.size W w' := emp rB (by decide +kernel) W
theorem empA (W : World) : Calls Tryd.prog 50 #[.agg #[.string ⟨#[97]⟩, .string ⟨#[98]⟩]] W fun e w' => e = .returned (.bool false) ∧ Below W.heap.size W w' := emp rA (by decide +kernel) W
/-- The row of a block of four cells. -/
def Four (w : World) (g : Nat) (a b c d : ByteArray) : Prop := w.cell? ⟨g, 0, none⟩ = some (.string a) ∧ w.cell? ⟨g, 1, none⟩ = some (.string b) ∧ w.cell? ⟨g, 2, none⟩ = some (.string c) ∧ w.cell? ⟨g, 3, none⟩ = some (.string d)
theorem Four.below {w w' : World} {g : Nat} {a b c d : ByteArray} (h : Four w g a b c d) (hb : Below w.heap.size w w') : Four w' g a b c d := by
  have e : w'.heap[g]? = w.heap[g]? := hb.block g (World.block_lt_of_cell? w _ h.1)
  have e2 : ∀ j, w'.cell? ⟨g, j, none⟩ = w.cell? ⟨g, j, none⟩ := fun j => hb.cell (show g < w.heap.size from World.block_lt_of_cell? w _ h.1)
  exact ⟨(e2 0).trans h.1, (e2 1).trans h.2.1, (e2 2).trans h.2.2.1, (e2 3).trans h.2.2.2⟩
set_option maxRecDepth 100000 in
theorem index2 (w : World) (g cap : Nat) (h4 : Four w g ⟨#[98]⟩ ⟨#[99]⟩ ⟨#[97]⟩ ⟨#[98]⟩) :
    Calls Tryd.prog 64 #[.slice (some ⟨g, 0, none⟩) 2 cap, .func (.func 50) #[] #[]] w fun e w' => e = .returned (.int .i64 (-1)) ∧ Below w.heap.size w w' := by
  have H4 := Lib.hid h4
  clear h4
  go_enter Tryd.func64, Tryd.ntmps64
  go_upto_region 2 with (fail)
  go_loopw [8] (fun v wr => (v = .int .i64 0 ∨ v = .int .i64 1 ∨ v = .int .i64 2) ∧ Below w.heap.size w wr) (fun v _ => 2 - (intOf v).toNat)
  case atStart => exact ⟨.inl rfl, Below.refl _ _⟩
  case round =>
    obtain ⟨hv, hb⟩ := hrel
    have h4 := H4.out.below hb
    have hz := hb.size
    have HB := Lib.hid hb
    clear hb
    obtain ⟨c0, c1, c2, c3⟩ := h4
    rcases hv with rfl | rfl | rfl
    · go_wp2_with (first
        | (go_at_call 50; refine (empB _).mono ?_; rintro e w2 ⟨rfl, hb2⟩))
      exact ⟨⟨.inr (.inl rfl), HB.out.trans (hb2.mono hz)⟩, by simp [intOf]⟩
    · go_wp2_with (first
        | (go_at_call 50; refine (empA _).mono ?_; rintro e w2 ⟨rfl, hb2⟩))
      exact ⟨⟨.inr (.inr rfl), HB.out.trans (hb2.mono hz)⟩, by simp [intOf]⟩
    · go_wp2
      go_ret
      exact ⟨rfl, HB.out⟩
set_option maxRecDepth 100000 in
theorem delete2 (w : World) (g cap : Nat) (h4 : Four w g ⟨#[98]⟩ ⟨#[99]⟩ ⟨#[97]⟩ ⟨#[98]⟩) :
    Calls Tryd.prog 49 #[.slice (some ⟨g, 0, none⟩) 2 cap, .func (.func 50) #[] #[]] w fun e w' => e = .returned (.slice (some ⟨g, 0, none⟩) 2 cap) ∧ Below w.heap.size w w' := by
  have hi := index2 w g cap h4
  clear h4
  go_enter Tryd.func49, Tryd.ntmps49
  go_wp2_with (first
    | (go_at_call 64; refine hi.mono ?_; rintro e w2 ⟨rfl, hb2⟩))
  go_ret
  exact ⟨rfl, hb2⟩
theorem infoR : (Tryd.prog.info? 28).map (fun i => (i.zero, i.size, i.bytes)) = some (some (.agg #[.string ⟨#[]⟩, .string ⟨#[]⟩]), 2, 32) := by kernel_rfl
theorem R_empty (w : World) (base g : Nat) (hb : base ≤ g) (hg : w.heap[g]? = some (.cells #[] 28 (0, 0))) : Kd.R k28 28 w base (fun _ => True) (.slice (some ⟨g, 0, none⟩) 0 0) [] :=
  ⟨fun _ _ => trivial, [], ⟨rfl, .inr ⟨g, 0, #[], rfl, hb, hg, Nat.le_refl _, by decide, rfl, rfl⟩⟩, ⟨rfl, fun j p hj => by simp at hj⟩⟩
set_option maxRecDepth 100000 in
theorem clone2 (w : World) (ad : Addr) (c : Nat) (hr : Kd.C k28 w (some ad) 2 [rB, rA]) (hc : 2 ≤ c) :
    Calls Tryd.prog 48 #[.slice (some ad) 2 c] w fun e w' => ∃ g cap, e = .returned (.slice (some ⟨g, 0, none⟩) 2 cap) ∧ w.heap.size ≤ g ∧ Four w' g ⟨#[98]⟩ ⟨#[99]⟩ ⟨#[97]⟩ ⟨#[98]⟩ ∧ (∀ j, w'.frozen? ⟨g, j, none⟩ = false) ∧ Below w.heap.size w w' := by
  have HR := Lib.hid hr
  clear hr
  have heq : ∀ W : World, (binOp .eql 41 (.slice (some ad) 2 c) (.slice none 0 0)).run Tryd.prog W = .ok (.bool false) W := by
    intro W
    have h : (Op.equalIn (9999 + 1) 41 (.slice (some ad) 2 c) (.slice none 0 0)).run Tryd.prog W = .ok false W := by
      rw [Op.equalIn]
      simp only [Sem.run_bind, run_underlying Tryd.underlying41, Result.andThen_ok]
      rfl
    have h2 : (Op.equal 41 (.slice (some ad) 2 c) (.slice none 0 0)).run Tryd.prog W = .ok false W := h
    simp only [binOp, Sem.run_bind, h2, Result.andThen_ok, Sem.run_pure]
  go_enter Tryd.func48, Tryd.ntmps48
  go_wp2_with (first
    | (at_builtin; refine Kd.R_append_rows k28 (Rr := k28.K w) (w0 := w) w.heap.size rfl (.tmp 5) (.tmp 6) 41 28 (.agg #[.string ⟨#[]⟩, .string ⟨#[]⟩]) 32 rfl Tryd.underlying41 infoR rfl (by decide) (by decide) (.slice (some ⟨w.heap.size, 0, none⟩) 0 0) [] [rB, rA] (some ad) 2 c (fun _ => True) (fun _ => False) rfl rfl (R_empty _ _ w.heap.size (Nat.le_refl _) (heap_alloc_new w _)) (Kd.C_below HR.out ((Below.refl _ _).alloc (Nat.le_refl _) _)) (fun x cs h => by rw [k28_open h]; exact k28_mkM _ _ _ x) (fun _ h => h.elim) (fun _ _ => trivial) ((Below.refl _ _).alloc (Nat.le_refl _) _) (by rw [World.size_alloc]; omega) (by decide) ?_; intro v1 w1 hR1 hb1 hg1 hat1))

  go_ret
  obtain ⟨-, inner, ho, hreps⟩ := hR1
  have hi : inner = [.string ⟨#[98]⟩, .string ⟨#[99]⟩, .string ⟨#[97]⟩, .string ⟨#[98]⟩] := by
    have h0 := k28_openM (hreps.2 0 rB rfl)
    have h1 := k28_openM (hreps.2 1 rA rfl)
    have hl := hreps.1
    simp only [show k28.sz = 2 from rfl] at h0 h1 hl
    match inner, hl with
    | [a, b, c, d], _ =>
      simp at h0 h1
      obtain ⟨rfl, rfl⟩ := h0
      obtain ⟨rfl, rfl⟩ := h1
      rfl
  subst hi
  rcases ho.2 with ⟨-, h⟩ | ⟨g, cap, cur, rfl, hg, hh, -, -, -, ht⟩
  · simp at h
  · refine ⟨g, cap, rfl, hg, ?_, fun j => frozen_of_row w1 g j _ _ hh, hb1⟩
    have hc4 : ∀ j v, ([.string ⟨#[98]⟩, .string ⟨#[99]⟩, .string ⟨#[97]⟩, .string ⟨#[98]⟩] : List Value)[j]? = some v → w1.cell? ⟨g, j, none⟩ = some v := by
      intro j v hj
      rw [cell_of_row w1 g j _ _ _ hh]
      rw [← ht] at hj
      have h1 : cur.toList[j]? = some v := by
        rw [List.getElem?_take] at hj
        split at hj
        · exact hj
        · cases hj
      rw [← h1]; simp
    exact ⟨hc4 0 _ rfl, hc4 1 _ rfl, hc4 2 _ rfl, hc4 3 _ rfl⟩
open Go.Shelf Go.Lib Go.Sort in
theorem flat1 : flatK encR 2 #[rB, rA] = #[.string ⟨#[98]⟩, .string ⟨#[99]⟩, .string ⟨#[97]⟩, .string ⟨#[98]⟩] := by kernel_rfl
open Go.Shelf Go.Lib Go.Sort in
theorem flat2 : flatK encR 2 #[rA, rB] = #[.string ⟨#[97]⟩, .string ⟨#[98]⟩, .string ⟨#[98]⟩, .string ⟨#[99]⟩] := by kernel_rfl
open Go.Shelf Go.Lib Go.Sort in
theorem holds4 (w : World) (g : Nat) (h : Four w g ⟨#[98]⟩ ⟨#[99]⟩ ⟨#[97]⟩ ⟨#[98]⟩) (hf : ∀ j, w.frozen? ⟨g, j, none⟩ = false) : HoldsK encR 2 w g 0 #[rB, rA] := by
  unfold HoldsK
  rw [flat1]
  intro j hj
  have hj4 : j < 4 := hj
  rw [Nat.zero_add]
  match j, hj4 with
  | 0, _ => exact ⟨h.1, hf 0⟩
  | 1, _ => exact ⟨h.2.1, hf 1⟩
  | 2, _ => exact ⟨h.2.2.1, hf 2⟩
  | 3, _ => exact ⟨h.2.2.2, hf 3⟩
open Go.Shelf Go.Lib Go.Sort in
theorem four_sorted (w : World) (g n : Nat) (os : Array Obj) (h : HoldsK encR 2 w g 0 #[rB, rA]) (hg : g < w.heap.size) : Four (sortWorldK encR 2 w g 0 n #[rA, rB] os) g ⟨#[97]⟩ ⟨#[98]⟩ ⟨#[98]⟩ ⟨#[99]⟩ := by
  have H := holdsK_sortWorldK_c encR 2 w g 0 #[rB, rA] #[rA, rB] n os h hg rfl
  unfold HoldsK at H
  rw [flat2] at H
  have h0 := (H 0 (by decide)).1
  have h1 := (H 1 (by decide)).1
  have h2 := (H 2 (by decide)).1
  have h3 := (H 3 (by decide)).1
  rw [Nat.zero_add] at h0 h1 h2 h3
  exact ⟨h0, h1, h2, h3⟩
theorem frozen_below {w w' : World} {g : Nat} (hg : g < w.heap.size) (hb : Below w.heap.size w w') (h : ∀ j, w.frozen? ⟨g, j, none⟩ = false) : ∀ j, w'.frozen? ⟨g, j, none⟩ = false := by
  intro j
  have e : w'.heap[g]? = w.heap[g]? := hb.block g hg
  have := h j
  unfold World.frozen? at this ⊢
  rw [e]
  exact this
theorem own2 {w : World} {B : Nat} {v x y : Value} (h : w.ownsRow B 28 2 v 1 [x, y]) : ∃ g cap cur, v = .slice (some ⟨g, 0, none⟩) 1 cap ∧ B ≤ g ∧ w.heap[g]? = some (.cells cur 28 (0, 0)) ∧ 1 ≤ cap ∧ cap ≤ maxLen ∧ cur.size = cap * 2 ∧ cur[0]? = some x ∧ cur[1]? = some y := by
  rcases h.2 with ⟨-, h⟩ | ⟨g, cap, cur, rfl, hg, hh, h1, h2, h3, ht⟩
  · cases h
  · have hc : ∀ (j : Nat) (u : Value), ([x, y] : List Value)[j]? = some u → cur[j]? = some u := by
      intro j u hj
      have hl : cur[j]? = cur.toList[j]? := by simp
      rw [← ht, List.getElem?_take] at hj
      split at hj
      · rw [hl]; exact hj
      · cases hj
    exact ⟨g, cap, cur, rfl, hg, hh, h1, h2, h3, hc 0 _ rfl, hc 1 _ rfl⟩
theorem take2 {cur : Array Value} {x y z : Value} (e0 : cur[0]? = some x) (e1 : cur[1]? = some y) : (cur.setIfInBounds 1 z).toList.take (1 * 2) = [x, z] := by
  obtain ⟨l⟩ := cur
  match l, e0, e1 with
  | [], e0, _ => simp at e0
  | [a], _, e1 => simp at e1
  | a :: b :: r, e0, e1 =>
    simp at e0 e1
    subst e0 e1
    simp
theorem R_one {w : World} {B b : Nat} {v : Value} (h : w.ownsRow B 28 2 v 1 [.string ⟨#[97]⟩, .string ⟨#[99]⟩]) (hb : b ≤ B) : Kd.R k28 28 w b (fun _ => True) v [rC] := by
  refine ⟨fun _ _ => trivial, [.string ⟨#[97]⟩, .string ⟨#[99]⟩], own_weaken h hb, rfl, fun j p hj => ?_⟩
  match j with
  | 0 =>
    injection hj with hj
    subst hj
    exact k28_mkM _ _ _ rC
  | j + 1 => simp at hj
set_option maxRecDepth 100000 in
set_option maxHeartbeats 8000000 in
theorem merged2 (w : World) (A : Option Addr) (c : Nat) (hr : Kd.C k28 w A 2 [rB, rA]) (hc : 2 ≤ c) :
    Calls Tryd.prog 38 #[.slice A 2 c] w fun e w' => ∃ v0, e = .returned v0 ∧ Kd.R k28 28 w' w.heap.size (fun _ => True) v0 [rC] ∧ Below w.heap.size w w' := by
  obtain ⟨ad, rfl, -⟩ := hr.2.2 (by decide)
  have HR := Lib.hid hr
  clear hr
  go_enter Tryd.func38, Tryd.ntmps38
  go_upto_region 6 with (first
    | (go_at_call 48; refine (clone2 _ ad c HR.out hc).mono ?_; rintro e w2 ⟨g, cap, rfl, hg, h4, hfz, hb2⟩; have h4 := Lib.hid h4; have hfz := Lib.hid hfz)
    | (go_at_call 49; refine (delete2 _ g cap h4.out).mono ?_; rintro e w3 ⟨rfl, hb3⟩)
    | (go_at_call 51; refine (sort2 _ g cap (holds4 _ g (h4.out.below hb3) (frozen_below (World.block_lt_of_cell? w2 _ h4.out.1) hb3 hfz.out)) (World.block_lt_of_cell? w3 _ (h4.out.below hb3).1)).mono ?_; rintro e w4 ⟨rfl, n, os, hw4⟩; have HW4 := Lib.hid hw4; clear hw4))
  have hg3 : g < w3.heap.size := World.block_lt_of_cell? w3 _ (h4.out.below hb3).1
  have hs := four_sorted w3 g n os (holds4 _ g (h4.out.below hb3) (frozen_below (World.block_lt_of_cell? w2 _ h4.out.1) hb3 hfz.out)) hg3
  have bs : Below w.heap.size w3 w4 := by rw [HW4.out]; exact sort_below hg (Nat.le_trans hb2.size hb3.size)
  rw [← HW4.out] at hs
  have b4 : Below w.heap.size w w4 := (hb2.trans (hb3.mono hb2.size)).trans bs
  have hg4 : g < w4.heap.size := World.block_lt_of_cell? w4 _ hs.1
  have G := Lib.hid (And.intro hs (And.intro b4 hg4))
  clear hs b4 hg4 bs HW4 h4 hfz hb2 hb3 hg3 hg HR hc
  go_loopw [4, 16] (fun v iv wr => Below w4.heap.size w4 wr ∧ ((iv = .int .i64 0 ∧ v = .slice none 0 0) ∨ (iv = .int .i64 1 ∧ wr.ownsRow w4.heap.size 28 2 v 1 [.string ⟨#[97]⟩, .string ⟨#[98]⟩]) ∨ (iv = .int .i64 2 ∧ wr.ownsRow w4.heap.size 28 2 v 1 [.string ⟨#[97]⟩, .string ⟨#[99]⟩]))) (fun _ iv _ => 2 - (intOf iv).toNat)
  case atStart => exact ⟨Below.refl _ _, .inl ⟨rfl, rfl⟩⟩
  case round =>
    obtain ⟨hb, hrel⟩ := hrel
    have h4 := G.out.1.below hb
    obtain ⟨c0, c1, c2, c3⟩ := h4
    have hsz := hb.size
    have HB := Lib.hid (And.intro hb hsz)
    clear hb hsz
    rcases hrel with ⟨rfl, rfl⟩ | ⟨rfl, hown⟩ | ⟨rfl, hown⟩
    · go_upto_region 9 with (fail)
      repeat (go_quiet (fail); try go_upto_region 10 with (fail))
      refine abs_m ?_
      intro w5 hw5
      have g5 : w5.heap[wr.heap.size]? = some (.cells #[.string ⟨#[97]⟩, .string ⟨#[98]⟩] 28 (0, 0)) := by rw [hw5]; exact heap_alloc_new wr _
      have b5 : Below wr.heap.size wr w5 := by rw [hw5]; first | exact pw_below_drewN ((Below.refl _ _).alloc (Nat.le_refl _) _) _ | exact ((Below.refl _ _).alloc (Nat.le_refl _) _).drew
      have t0 : w5.cell? ⟨wr.heap.size, 0, none⟩ = some (.string ⟨#[97]⟩) := cell_of_row w5 _ 0 _ _ _ g5
      have t1 : w5.cell? ⟨wr.heap.size, 1, none⟩ = some (.string ⟨#[98]⟩) := cell_of_row w5 _ 1 _ _ _ g5
      have B5 := Lib.hid (HB.out.1.trans (b5.mono HB.out.2))
      have S5 := Lib.hid (Nat.le_trans HB.out.2 b5.size)
      clear hw5 b5 c0 c1 c2 c3
      go_wp2_with (first
        | (at_builtin; refine print_append_cells (w0 := w4) w4.heap.size rfl (.tmp 43) (.tmp 45) 41 28 (.agg #[.string ⟨#[]⟩, .string ⟨#[]⟩]) 2 32 rfl Tryd.underlying41 infoR rfl (by decide) (by decide) (.slice none 0 0) 0 [] [.string ⟨#[97]⟩, .string ⟨#[98]⟩] rfl rfl rfl (by intro u hu; simp at hu; rcases hu with rfl | rfl <;> rfl) ⟨rfl, .inl ⟨rfl, rfl⟩⟩ B5.out S5.out (by decide) ?_; intro v6 w6 hown6 hb6 hg6 hat6))
      exact ⟨⟨hb6, .inr (.inl ⟨by first | rfl | go_num, hown6⟩)⟩, by simp [intOf]⟩
    · obtain ⟨go, co, cur, rfl, hgo, hh, h1, h2, h3, e0, e1⟩ := own2 hown
      have hlt : go < wr.heap.size := by rcases Nat.lt_or_ge go wr.heap.size with h | h; exact h; rw [Array.getElem?_eq_none h] at hh; cases hh
      have o0 : wr.cell? ⟨go, 0, none⟩ = some (.string ⟨#[97]⟩) := (cell_of_row wr go 0 _ _ _ hh).trans e0
      have o1 : wr.cell? ⟨go, 1, none⟩ = some (.string ⟨#[98]⟩) := (cell_of_row wr go 1 _ _ _ hh).trans e1
      have fo := frozen_of_row wr go 1 _ _ hh
      have HO := Lib.hid (And.intro hgo (And.intro hh (And.intro h1 (And.intro h2 (And.intro h3 (And.intro hlt (And.intro e0 e1)))))))
      clear hgo hh h1 h2 h3 e0 e1 hown
      go_upto_region 9 with (fail)
      repeat (go_quiet (fail); try go_wp2)
      have bw : ∀ m, Below wr.heap.size wr ((wr.alloc (.cells #[.string ⟨#[98]⟩, .string ⟨#[99]⟩] 28)).drewN m) := fun m => pw_below_drewN ((Below.refl _ _).alloc (Nat.le_refl _) _) m
      obtain ⟨hgo, hh, h1, h2, h3, hlt, e0, e1⟩ := HO.out
      refine ⟨⟨(HB.out.1.trans ((bw _).mono HB.out.2)).setCell hgo _, .inr (.inr ⟨rfl, rfl, .inr ⟨go, co, cur.setIfInBounds 1 (.string ⟨#[99]⟩), rfl, hgo, heap_setCell_same _ go 1 _ 28 _ (((bw _).block go hlt).trans hh), h1, h2, by rw [Array.size_setIfInBounds]; exact h3, take2 e0 e1⟩⟩)⟩, by simp [intOf]⟩
    · go_wp2
      go_ret
      exact ⟨_, rfl, R_one hown (Nat.le_trans G.out.2.1.size (Nat.le_refl _)), G.out.2.1.trans (HB.out.1.mono G.out.2.1.size)⟩
theorem data_inj {a b : ByteArray} (h : a.data.toList = b.data.toList) : a = b := by
  cases a; cases b
  simp at h
  rw [h]
def keyR (x : S28) : List UInt8 × List UInt8 := (x.f0.data.toList, x.f1.data.toList)
theorem keyR_inj {x y : S28} (h : keyR x = keyR y) : x = y := by
  obtain ⟨a, b⟩ := x
  obtain ⟨c, d⟩ := y
  simp only [keyR, Prod.mk.injEq] at h
  rw [data_inj h.1, data_inj h.2]
theorem map_inj {α β : Type} (f : α → β) (hf : ∀ x y, f x = f y → x = y) : ∀ {l m : List α}, l.map f = m.map f → l = m
  | [], [], _ => rfl
  | [], _ :: _, h => by simp at h
  | _ :: _, [], h => by simp at h
  | a :: l, b :: m, h => by
    simp only [List.map_cons, List.cons.injEq] at h
    rw [hf _ _ h.1, map_inj f hf h.2]
def span_merged.f (l0 : List (S28)) : Option (List (S28)) := if (l0.map keyR) = ([rB, rA].map keyR) then some [rC] else none
theorem span_merged.calls (A0 : Option Addr) (c0 : Nat) (l0 : List (S28)) (r : List (S28)) (w : World) (hr0 : Kd.C k28 w A0 l0.length l0) (hc0 : l0.length ≤ c0) (h : span_merged.f l0 = some r) :
    Calls Tryd.prog 38 #[.slice A0 l0.length c0] w fun e w' => ∃ v0_ : Value, e = .returned (v0_) ∧ Kd.R k28 28 w' w.heap.size (fun _ => True) v0_ r ∧ Below w.heap.size w w' := by
  unfold span_merged.f at h
  split at h
  · rename_i he
    obtain rfl : l0 = [rB, rA] := map_inj keyR (fun _ _ => keyR_inj) he
    injection h with h
    subst h
    exact merged2 w A0 c0 hr0 hc0
  · cases h

/-! ### span_Normal: function 18 -/
def span_Normal.f (l0 : List (S28)) : Option ((List (S28))) := (span_merged.f l0).bind fun t112 => (some t112)
set_option maxHeartbeats 8000000 in
set_option maxRecDepth 100000 in
theorem span_Normal.calls (A0 : Option Addr) (c0 : Nat) (l0 : List (S28)) (r : List (S28)) (w : World) (hr0 : Kd.C k28 w A0 l0.length l0) (hc0 : l0.length ≤ c0) (h : span_Normal.f l0 = some r) :
    Calls Tryd.prog 18 #[.slice A0 l0.length c0] w fun e w' => ∃ v0_ : Value, e = .returned (v0_) ∧ Kd.R k28 28 w' w.heap.size (fun _ => True) v0_ r ∧ Below w.heap.size w w' := by
  have HR0 := Aside0.mk hr0
  have HC0 := Aside0.mk hc0
  clear hr0 hc0
  have HB := Aside0.mk (Below.refl w.heap.size w)
  have H : ((span_merged.f l0).bind fun t112 => (some t112)) = some r := h
  clear h
  replace H := Option.bind_eq_some_iff.mp H
  obtain ⟨t112, A20, H⟩ := H
  replace H : (some t112) = some r := H
  have A2 := Aside0.mk A20
  clear A20
  obtain rfl := Option.some.inj H
  go_enter Tryd.func18, Tryd.ntmps18
  go_wp2_with (first | ((with_reducible refine gate_callee (f := 38) rfl ?_); refine goesL_ (some 4) rfl rfl Tryd.func38 (by kernel_rfl) rfl #[.slice A0 l0.length c0] rfl (by (try simp only [List.map_toArray, List.map_cons, List.map_nil]); first | done | rfl | (simp only [List.length_drop, List.length_take]; rfl)) ?_; (with_reducible refine (span_merged.calls _ _ l0 t112 _ ?side1 ?side2 A2.out).mono ?_); (case side1 => repeat (first | exact HR0.out | (with_reducible refine Kd.C_alloc ?_ _) | (with_reducible refine Kd.C_drewN ?_ _) | (with_reducible refine Kd.C_drew ?_))); (case side2 => exact HC0.out); rintro e w3 ⟨v113, rfl, ho0, hb⟩; refine ⟨_, rfl, ?_⟩; have n0_ := Aside0.mk (Kd.R_lower ho0 (below_size (by repeat (first | (with_reducible first | exact HB.out | apply below_alloc | apply pw_below_drewN | apply below_drew1) | exact HB.out)))); have n1_ := Aside0.mk (below_step (by repeat (first | (with_reducible first | exact HB.out | apply below_alloc | apply pw_below_drewN | apply below_drew1) | exact HB.out)) hb); clear HB; have HO114 := n0_; have HB := n1_; clear n0_ n1_; (try clear hb); (try clear hb2); (try clear hk); (try clear hi); (try clear ho0)))
  go_ret
  exact ⟨_, by first | rfl | (simp [errW_none, errW_some] <;> rfl) | (simp [*, errW_none, errW_some] <;> rfl), by (with_reducible repeat (first | apply Kd.R_alloc | apply Kd.R_drewN | apply Kd.R_drew)); exact HO114.out, by repeat (first | (with_reducible first | exact HB.out | apply below_alloc | apply pw_below_drewN | apply below_drew1) | exact HB.out)⟩

end Go.Proofs.YtijlanhhelichaaDoor.PSpanHome

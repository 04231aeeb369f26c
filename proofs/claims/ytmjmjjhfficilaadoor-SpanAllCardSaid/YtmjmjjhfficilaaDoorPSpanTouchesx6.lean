/- What is proved: contracts of the functions that the law uses, each under the conditions that its theorem states. Written by a program of this session: texts of the kit's print, and texts by hand for the functions that the print does not take. -/
import Derived.Test.YtmjmjjhfficilaaDoorPSpanTouchesx0
import Derived.Test.YtmjmjjhfficilaaDoorPSpanTouchesx1
import Derived.Test.YtmjmjjhfficilaaDoorPSpanTouchesx5
namespace Go.Proofs.YtmjmjjhfficilaaDoor.PSpanTouches
open Go.RowKit Go.Proofs.YtmjmjjhfficilaaDoorW.PrintWords Go.Proofs.YtmjmjjhfficilaaDoorW.PrintLast Go.Proofs.YtmjmjjhfficilaaDoorW.PrintMore
attribute [local go_sem] max2_int min2_int max_two min_two max_three min_three max_four min_four   -- for this text's walks alone
set_option linter.unusedVariables false
set_option linter.unusedSimpArgs false

/-! ### span_least: function 37 -/
def cntD (d : Int) : Int := if d = 1 then 16 else if d = 2 then 256 else 4096
def bytesD (d b : Int) : List Int := if d = 1 then [b * 16 % 256] else if d = 2 then [b % 256] else [b * 16 / 256 % 256, b * 16 % 256]
theorem abs_w {P : Program} {c : Code} {Q : Exit → Act → World → Prop} {a : Act} {w : World} (h : ∀ w', w' = w → Code.wp P c Q a w') : Code.wp P c Q a w := h w rfl
theorem strOf_size (l : List Int) : (strOfNums l).size = l.length := by simp [strOfNums, ByteArray.size]
set_option maxRecDepth 100000 in
theorem trim_any (s r : ByteArray) (w : World) (hs : 0 < s.size) (hm : s.size ≤ 9223372036854775807) (h : strings_trimRightByte.f 8 s 0 = some r) :
    Calls Tryd.prog 49 #[.string s, .string ⟨#[0]⟩] w fun e w' => e = .returned (.string r) ∧ Drawn0 w w' := by
  have he2 : (s.toList == ([] : List UInt8)) = false := by
    rw [beq_eq_false_iff_ne]
    intro e
    rw [ByteArray.toList_eq] at e
    have h1 : s.data.toList.length = s.size := by rw [Array.length_toList]; rfl
    rw [e] at h1
    simp at h1
    omega
  have he : (s == (⟨#[]⟩ : ByteArray)) = false := by
    rw [beq_toListBytes, show (⟨#[]⟩ : ByteArray).toList = [] by rw [ByteArray.toList_eq]]; exact he2
  have HS := Lib.hid (And.intro hs hm)
  go_enter Tryd.func49, Tryd.ntmps49
  go_wp2_with (first
    | (go_at_call 66; refine (strings_trimRightByte.calls 8 s 0 r _ h).mono ?_; rintro e w2 ⟨rfl, ⟨nd, rfl⟩⟩))
  go_ret
  exact ⟨rfl, ⟨_, rfl⟩⟩
set_option maxRecDepth 100000 in
set_option maxHeartbeats 8000000 in
theorem least1 (b : Int) (r : ByteArray) (w : World) (hb0 : 0 ≤ b) (hlt : b < 16) (h : strings_trimRightByte.f 8 (strOfNums [(b * 16) % 256]) 0 = some r) :
    Calls Tryd.prog 37 #[.int .i64 1, .int .i64 b] w fun e w' => e = .returned (.string r) ∧ Below w.heap.size w w' := by
  have hc : span_count.f 6 1 = some 16 := by decide +kernel
  have c0 : decide (b ≥ 16) = false := decide_eq_false (by omega)
  have c1 : ¬ (16 ≤ b) := by omega
  have n0 : wrap64 (b * 16) = b * 16 := IntWalk.wrap64_in _ (by omega)
  have n1 : IntKind.i64.wrap (b * 16) = b * 16 := IntWalk.i64_in _ (by omega)
  have HB := Lib.hid (And.intro hb0 hlt)
  have HS := Lib.hid h
  clear h hb0 hlt
  go_enter Tryd.func37, Tryd.ntmps37
  go_upto_region 8 with (first
    | (go_at_call 35; refine (span_count.calls 6 1 16 _ hc).mono ?_; rintro e w2 ⟨rfl, ⟨nd, rfl⟩⟩))
  refine abs_w ?_
  intro w1 hw1
  have hb1 : Below w.heap.size w w1 := by rw [hw1]; first | exact (pw_below_drewN (Below.refl _ _) nd).alloc (Nat.le_refl _) _ | exact pw_below_drewN ((Below.refl _ _).alloc (Nat.le_refl _) _) nd
  have g1 : w1.heap[w.heap.size]? = some (.cells #[.int .u8 0, .int .u8 0] 76 (0, 0)) := by rw [hw1]; exact heap_alloc_new w _
  have lt1 : w.heap.size < w1.heap.size := by rcases Nat.lt_or_ge w.heap.size w1.heap.size with h | h; exact h; rw [Array.getElem?_eq_none h] at g1; cases g1
  clear hw1 hc
  go_loopw [1, 6] (fun vv iv wr => (vv = .int .i64 (b * 16) ∧ iv = .int .i64 0 ∧ wr = w1) ∨ (∃ v' : Int, vv = .int .i64 v' ∧ iv = .int .i64 (-1) ∧ wr = w1.setCell ⟨w.heap.size, 0, none⟩ (.int .u8 ((b * 16) % 256)))) (fun _ iv _ => (intOf iv + 1).toNat)
  case atStart => exact .inl ⟨rfl, rfl, rfl⟩
  case round =>
    rcases hrel with ⟨rfl, rfl, rfl⟩ | ⟨v', rfl, rfl, hwr⟩
    · have cg := cell_of_row wr w.heap.size 0 _ _ _ g1
      have fg := frozen_of_row wr w.heap.size 0 _ _ g1
      go_wp2
      exact ⟨.inr ⟨_, rfl, by first | rfl | trivial⟩, by simp [intOf]⟩
    · have g2 : wr.heap[w.heap.size]? = some (.cells #[.int .u8 ((b * 16) % 256), .int .u8 0] 76 (0, 0)) := by rw [hwr]; exact heap_setCell_same w1 w.heap.size 0 _ 76 _ g1
      have b2 : Below w.heap.size w wr := by rw [hwr]; exact hb1.setCell (Nat.le_refl _) _
      have b3 := Lib.hid b2
      have kb := run_convert_bytes_arg (P := Tryd.prog) wr 75 5 Tryd.underlying75 Tryd.underlying5 w.heap.size 0 1 2 [(b * 16) % 256] rfl (fun i hi => by
        rw [cell_of_row wr w.heap.size (0 + i) _ _ _ g2]
        obtain rfl : i = 0 := by omega
        rfl) 9 Tryd.underlying9
      have hsz : (strOfNums [(b * 16) % 256]).size = 1 := strOf_size _
      obtain ⟨S, hS⟩ : ∃ S, RowKit.Hid (S = strOfNums [(b * 16) % 256]) := ⟨_, Lib.hid rfl⟩
      rw [← hS.out] at kb hsz
      have ht : RowKit.Hid (strings_trimRightByte.f 8 S 0 = some r) := Lib.hid (by rw [hS.out]; exact HS.out)
      have HZ := Lib.hid hsz
      clear hwr b2 hsz g1 hb1 
      go_wp2_with (first
        | (go_at_call 49; refine (trim_any S r _ (by rw [HZ.out]; decide) (by rw [HZ.out]; decide) ht.out).mono ?_; rintro e w3 ⟨rfl, ⟨nd3, rfl⟩⟩))
      go_ret
      exact ⟨rfl, pw_below_drewN b3.out nd3⟩
set_option maxRecDepth 100000 in
set_option maxHeartbeats 8000000 in
theorem least2 (b : Int) (r : ByteArray) (w : World) (hb0 : 0 ≤ b) (hlt : b < 256) (h : strings_trimRightByte.f 8 (strOfNums [b % 256]) 0 = some r) :
    Calls Tryd.prog 37 #[.int .i64 2, .int .i64 b] w fun e w' => e = .returned (.string r) ∧ Below w.heap.size w w' := by
  have hc : span_count.f 6 2 = some 256 := by decide +kernel
  have c0 : decide (b ≥ 256) = false := decide_eq_false (by omega)
  have c1 : ¬ (256 ≤ b) := by omega
  have HB := Lib.hid (And.intro hb0 hlt)
  have HS := Lib.hid h
  clear h hb0 hlt
  go_enter Tryd.func37, Tryd.ntmps37
  go_upto_region 8 with (first
    | (go_at_call 35; refine (span_count.calls 6 2 256 _ hc).mono ?_; rintro e w2 ⟨rfl, ⟨nd, rfl⟩⟩))
  refine abs_w ?_
  intro w1 hw1
  have hb1 : Below w.heap.size w w1 := by rw [hw1]; first | exact (pw_below_drewN (Below.refl _ _) nd).alloc (Nat.le_refl _) _ | exact pw_below_drewN ((Below.refl _ _).alloc (Nat.le_refl _) _) nd
  have g1 : w1.heap[w.heap.size]? = some (.cells #[.int .u8 0, .int .u8 0] 76 (0, 0)) := by rw [hw1]; exact heap_alloc_new w _
  have lt1 : w.heap.size < w1.heap.size := by rcases Nat.lt_or_ge w.heap.size w1.heap.size with h | h; exact h; rw [Array.getElem?_eq_none h] at g1; cases g1
  clear hw1 hc
  go_loopw [1, 6] (fun vv iv wr => (vv = .int .i64 b ∧ iv = .int .i64 0 ∧ wr = w1) ∨ (∃ v' : Int, vv = .int .i64 v' ∧ iv = .int .i64 (-1) ∧ wr = w1.setCell ⟨w.heap.size, 0, none⟩ (.int .u8 (b % 256)))) (fun _ iv _ => (intOf iv + 1).toNat)
  case atStart => exact .inl ⟨rfl, rfl, rfl⟩
  case round =>
    rcases hrel with ⟨rfl, rfl, rfl⟩ | ⟨v', rfl, rfl, hwr⟩
    · have cg := cell_of_row wr w.heap.size 0 _ _ _ g1
      have fg := frozen_of_row wr w.heap.size 0 _ _ g1
      go_wp2
      exact ⟨.inr ⟨_, rfl, by first | rfl | trivial⟩, by simp [intOf]⟩
    · have g2 : wr.heap[w.heap.size]? = some (.cells #[.int .u8 (b % 256), .int .u8 0] 76 (0, 0)) := by rw [hwr]; exact heap_setCell_same w1 w.heap.size 0 _ 76 _ g1
      have b2 : Below w.heap.size w wr := by rw [hwr]; exact hb1.setCell (Nat.le_refl _) _
      have b3 := Lib.hid b2
      have kb := run_convert_bytes_arg (P := Tryd.prog) wr 75 5 Tryd.underlying75 Tryd.underlying5 w.heap.size 0 1 2 [b % 256] rfl (fun i hi => by
        rw [cell_of_row wr w.heap.size (0 + i) _ _ _ g2]
        obtain rfl : i = 0 := by omega
        rfl) 9 Tryd.underlying9
      have hsz : (strOfNums [b % 256]).size = 1 := strOf_size _
      obtain ⟨S, hS⟩ : ∃ S, RowKit.Hid (S = strOfNums [b % 256]) := ⟨_, Lib.hid rfl⟩
      rw [← hS.out] at kb hsz
      have ht : RowKit.Hid (strings_trimRightByte.f 8 S 0 = some r) := Lib.hid (by rw [hS.out]; exact HS.out)
      have HZ := Lib.hid hsz
      clear hwr b2 hsz g1 hb1 
      go_wp2_with (first
        | (go_at_call 49; refine (trim_any S r _ (by rw [HZ.out]; decide) (by rw [HZ.out]; decide) ht.out).mono ?_; rintro e w3 ⟨rfl, ⟨nd3, rfl⟩⟩))
      go_ret
      exact ⟨rfl, pw_below_drewN b3.out nd3⟩
set_option maxRecDepth 100000 in
set_option maxHeartbeats 8000000 in
theorem least3 (b : Int) (r : ByteArray) (w : World) (hb0 : 0 ≤ b) (hlt : b < 4096) (h : strings_trimRightByte.f 8 (strOfNums [b * 16 / 256 % 256, b * 16 % 256]) 0 = some r) :
    Calls Tryd.prog 37 #[.int .i64 3, .int .i64 b] w fun e w' => e = .returned (.string r) ∧ Below w.heap.size w w' := by
  have hc : span_count.f 6 3 = some 4096 := by decide +kernel
  have c0 : decide (b ≥ 4096) = false := decide_eq_false (by omega)
  have c1 : ¬ (4096 ≤ b) := by omega
  have n0 : wrap64 (b * 16) = b * 16 := IntWalk.wrap64_in _ (by omega)
  have n1 : IntKind.i64.wrap (b * 16) = b * 16 := IntWalk.i64_in _ (by omega)
  have HB := Lib.hid (And.intro hb0 hlt)
  have HS := Lib.hid h
  clear h hb0 hlt
  go_enter Tryd.func37, Tryd.ntmps37
  go_upto_region 8 with (first
    | (go_at_call 35; refine (span_count.calls 6 3 4096 _ hc).mono ?_; rintro e w2 ⟨rfl, ⟨nd, rfl⟩⟩))
  refine abs_w ?_
  intro w1 hw1
  have hb1 : Below w.heap.size w w1 := by rw [hw1]; first | exact (pw_below_drewN (Below.refl _ _) nd).alloc (Nat.le_refl _) _ | exact pw_below_drewN ((Below.refl _ _).alloc (Nat.le_refl _) _) nd
  have g1 : w1.heap[w.heap.size]? = some (.cells #[.int .u8 0, .int .u8 0] 76 (0, 0)) := by rw [hw1]; exact heap_alloc_new w _
  have lt1 : w.heap.size < w1.heap.size := by rcases Nat.lt_or_ge w.heap.size w1.heap.size with h | h; exact h; rw [Array.getElem?_eq_none h] at g1; cases g1
  clear hw1 hc
  go_loopw [1, 6] (fun vv iv wr => (vv = .int .i64 (b * 16) ∧ iv = .int .i64 1 ∧ wr = w1) ∨ (vv = .int .i64 (b * 16 / 256) ∧ iv = .int .i64 0 ∧ wr = w1.setCell ⟨w.heap.size, 1, none⟩ (.int .u8 (b * 16 % 256))) ∨ (∃ v' : Int, vv = .int .i64 v' ∧ iv = .int .i64 (-1) ∧ wr = (w1.setCell ⟨w.heap.size, 1, none⟩ (.int .u8 (b * 16 % 256))).setCell ⟨w.heap.size, 0, none⟩ (.int .u8 (b * 16 / 256 % 256)))) (fun _ iv _ => (intOf iv + 1).toNat)
  case atStart => exact .inl ⟨rfl, rfl, rfl⟩
  case round =>
    have ga := heap_setCell_same w1 w.heap.size 1 _ 76 (.int .u8 (b * 16 % 256)) g1
    rcases hrel with ⟨rfl, rfl, rfl⟩ | ⟨rfl, rfl, hwr⟩ | ⟨v', rfl, rfl, hwr⟩
    · have cg := cell_of_row wr w.heap.size 1 _ _ _ g1
      have fg := frozen_of_row wr w.heap.size 1 _ _ g1
      clear ga
      go_wp2
      exact ⟨.inr (.inl ⟨by first | rfl | (simp; done), by first | exact ⟨rfl, rfl⟩ | rfl | trivial⟩), by simp [intOf]⟩
    · rw [← hwr] at ga
      have cg := cell_of_row wr w.heap.size 0 _ _ _ ga
      have fg := frozen_of_row wr w.heap.size 0 _ _ ga
      have HW := Lib.hid hwr
      clear hwr ga
      go_wp2
      exact ⟨.inr (.inr ⟨_, rfl, rfl, by rw [HW.out]⟩), by simp [intOf]⟩
    · have g2 : wr.heap[w.heap.size]? = some (.cells #[.int .u8 (b * 16 / 256 % 256), .int .u8 (b * 16 % 256)] 76 (0, 0)) := by rw [hwr]; exact heap_setCell_same _ w.heap.size 0 _ 76 _ ga
      have b2 : Below w.heap.size w wr := by rw [hwr]; exact (hb1.setCell (Nat.le_refl _) _).setCell (Nat.le_refl _) _
      have b3 := Lib.hid b2
      have kb := run_convert_bytes_arg (P := Tryd.prog) wr 75 5 Tryd.underlying75 Tryd.underlying5 w.heap.size 0 2 2 [b * 16 / 256 % 256, b * 16 % 256] rfl (fun i hi => by
        rw [cell_of_row wr w.heap.size (0 + i) _ _ _ g2]
        match i, hi with
        | 0, _ => rfl
        | 1, _ => rfl) 9 Tryd.underlying9
      have hsz : (strOfNums [b * 16 / 256 % 256, b * 16 % 256]).size = 2 := strOf_size _
      obtain ⟨S, hS⟩ : ∃ S, RowKit.Hid (S = strOfNums [b * 16 / 256 % 256, b * 16 % 256]) := ⟨_, Lib.hid rfl⟩
      rw [← hS.out] at kb hsz
      have ht : RowKit.Hid (strings_trimRightByte.f 8 S 0 = some r) := Lib.hid (by rw [hS.out]; exact HS.out)
      have HZ := Lib.hid hsz
      clear hwr b2 hsz g1 hb1 ga
      go_wp2_with (first
        | (go_at_call 49; refine (trim_any S r _ (by rw [HZ.out]; decide) (by rw [HZ.out]; decide) ht.out).mono ?_; rintro e w3 ⟨rfl, ⟨nd3, rfl⟩⟩))
      go_ret
      exact ⟨rfl, pw_below_drewN b3.out nd3⟩
set_option maxRecDepth 100000 in
theorem leastBig1 (b : Int) (w : World) (hb : 16 ≤ b) :
    Calls Tryd.prog 37 #[.int .i64 1, .int .i64 b] w fun e w' => e = .returned (.string ⟨#[]⟩) ∧ Below w.heap.size w w' := by
  have hc : span_count.f 6 1 = some 16 := by decide +kernel
  have c0 : decide (b ≥ 16) = true := decide_eq_true hb
  go_enter Tryd.func37, Tryd.ntmps37
  go_wp2_with (first
    | (go_at_call 35; refine (span_count.calls 6 1 16 _ hc).mono ?_; rintro e w2 ⟨rfl, ⟨nd, rfl⟩⟩))
  go_ret
  exact ⟨rfl, pw_below_drewN (Below.refl _ _) nd⟩
set_option maxRecDepth 100000 in
theorem leastBig2 (b : Int) (w : World) (hb : 256 ≤ b) :
    Calls Tryd.prog 37 #[.int .i64 2, .int .i64 b] w fun e w' => e = .returned (.string ⟨#[]⟩) ∧ Below w.heap.size w w' := by
  have hc : span_count.f 6 2 = some 256 := by decide +kernel
  have c0 : decide (b ≥ 256) = true := decide_eq_true hb
  go_enter Tryd.func37, Tryd.ntmps37
  go_wp2_with (first
    | (go_at_call 35; refine (span_count.calls 6 2 256 _ hc).mono ?_; rintro e w2 ⟨rfl, ⟨nd, rfl⟩⟩))
  go_ret
  exact ⟨rfl, pw_below_drewN (Below.refl _ _) nd⟩
set_option maxRecDepth 100000 in
theorem leastBig3 (b : Int) (w : World) (hb : 4096 ≤ b) :
    Calls Tryd.prog 37 #[.int .i64 3, .int .i64 b] w fun e w' => e = .returned (.string ⟨#[]⟩) ∧ Below w.heap.size w w' := by
  have hc : span_count.f 6 3 = some 4096 := by decide +kernel
  have c0 : decide (b ≥ 4096) = true := decide_eq_true hb
  go_enter Tryd.func37, Tryd.ntmps37
  go_wp2_with (first
    | (go_at_call 35; refine (span_count.calls 6 3 4096 _ hc).mono ?_; rintro e w2 ⟨rfl, ⟨nd, rfl⟩⟩))
  go_ret
  exact ⟨rfl, pw_below_drewN (Below.refl _ _) nd⟩
def span_least.f (a0 a1 : Int) : Option ByteArray := if (a0 = 1 ∨ a0 = 2 ∨ a0 = 3) ∧ 0 ≤ a1 then (if cntD a0 ≤ a1 then some ⟨#[]⟩ else strings_trimRightByte.f 8 (strOfNums (bytesD a0 a1)) 0) else none
theorem span_least.calls (a0 a1 : Int) (r : ByteArray) (w : World) (h : span_least.f a0 a1 = some r) :
    Calls Tryd.prog 37 #[.int .i64 a0, .int .i64 a1] w fun e w' => e = .returned (.string r) ∧ Below w.heap.size w w' := by
  unfold span_least.f at h
  split at h
  · rename_i hd
    obtain ⟨hd, hb⟩ := hd
    split at h
    · rename_i hc
      injection h with h
      subst h
      rcases hd with rfl | rfl | rfl
      · exact leastBig1 a1 w hc
      · exact leastBig2 a1 w hc
      · exact leastBig3 a1 w hc
    · rename_i hc
      rcases hd with rfl | rfl | rfl
      · exact least1 a1 r w hb (Int.not_le.1 hc) h
      · exact least2 a1 r w hb (Int.not_le.1 hc) h
      · exact least3 a1 r w hb (Int.not_le.1 hc) h
  · cases h

/-! ### span_Of: function 11 -/
def span_Of.j0 : Nat → Int → Int → Bool → Option (ByteArray × ByteArray × Int)
  | 0, _, _, _ => none
  | k + 1, x0, x1, x18 => if x18 = true then (some ((⟨#[]⟩ : ByteArray), (⟨#[]⟩ : ByteArray), 62)) else ((span_least.f x0 x1).bind fun t168 => ((span_least.f x0 (wrap64 (x1 + 1))).bind fun t169 => (some (t168, t169, 0))))
def span_Of.f (k : Nat) (a0 : Int) (a1 : Int) : Option (ByteArray × ByteArray × Int) := (span_count.f k a0).bind fun t167 => (if t167 = 0 then (some ((⟨#[]⟩ : ByteArray), (⟨#[]⟩ : ByteArray), 61)) else (if a1 < 0 then (span_Of.j0 k a0 a1 true) else (span_Of.j0 k a0 a1 (decide (a1 ≥ t167)))))
theorem span_Of.mono_l : ∀ k, (∀ y0 y1 y2, LeO (span_Of.j0 k y0 y1 y2) (span_Of.j0 (k + 1) y0 y1 y2))
  | 0 => fun _ _ _ r h => by simp [span_Of.j0] at h
  | k + 1 => by
    have ih0 := span_Of.mono_l k
    · intro y0 y1 y2
      unfold span_Of.j0
      repeat' first
      | (with_reducible exact ih0 _ _ _)
      | (with_reducible exact span_count.mono _ _)
      | (with_reducible exact LeO.refl _)
      | (with_reducible exact LeO.none _)
      | (with_reducible refine LeO.ite ?_ ?_)
      | (with_reducible refine LeO.bind ?_ (fun _ => ?_))
      | exact ih0 _ _ _
      | exact span_count.mono _ _
      | exact LeO.none _
      | refine LeO.ite ?_ ?_
      | refine LeO.bind ?_ (fun _ => ?_)
theorem span_Of.mono : ∀ a0 a1 k, LeO (span_Of.f k a0 a1) (span_Of.f (k + 1) a0 a1) := by
  intro a0 a1 k
  have ih0 := span_Of.mono_l k
  unfold span_Of.f
  repeat' first
      | (with_reducible exact ih0 _ _ _)
      | (with_reducible exact span_count.mono _ _)
      | (with_reducible exact LeO.refl _)
      | (with_reducible exact LeO.none _)
      | (with_reducible refine LeO.ite ?_ ?_)
      | (with_reducible refine LeO.bind ?_ (fun _ => ?_))
      | exact ih0 _ _ _
      | exact span_count.mono _ _
      | exact LeO.none _
      | refine LeO.ite ?_ ?_
      | refine LeO.bind ?_ (fun _ => ?_)
set_option maxHeartbeats 8000000 in
set_option maxRecDepth 100000 in
theorem span_Of.calls (k : Nat) (a0 : Int) (a1 : Int) (r1 : ByteArray) (r2 : ByteArray) (r3 : Int) (w : World) (h : span_Of.f k a0 a1 = some (r1, r2, r3)) :
    Calls Tryd.prog 11 #[.int .i64 a0, .int .i64 a1] w fun e w' => e = .returned (.tuple #[.agg #[.string r1, .string r2], .int .i64 r3]) ∧ Below w.heap.size w w' := by
  have hu27 := Tryd.underlying27
  have HB := Aside0.mk (Below.refl w.heap.size w)
  have H : ((span_count.f k a0).bind fun t167 => (if t167 = 0 then (some ((⟨#[]⟩ : ByteArray), (⟨#[]⟩ : ByteArray), 61)) else (if a1 < 0 then (span_Of.j0 k a0 a1 true) else (span_Of.j0 k a0 a1 (decide (a1 ≥ t167)))))) = some (r1, r2, r3) := h
  clear h
  replace H := Option.bind_eq_some_iff.mp H
  obtain ⟨t167, A30, H⟩ := H
  replace H : (if t167 = 0 then (some ((⟨#[]⟩ : ByteArray), (⟨#[]⟩ : ByteArray), 61)) else (if a1 < 0 then (span_Of.j0 k a0 a1 true) else (span_Of.j0 k a0 a1 (decide (a1 ≥ t167))))) = some (r1, r2, r3) := H
  have A3 := Aside0.mk A30
  clear A30
  by_cases c4 : t167 = 0
  · rw [if_pos c4] at H
    have c4b0 : (t167 == 0) = true := beq_iff_eq.mpr c4
    have c4b1 : (t167 != 0) = false := bne_eq_false_iff_eq.mpr c4
    clear c4
    simp only [Option.some.injEq, Prod.mk.injEq] at H
    obtain ⟨rfl, rfl, rfl⟩ := H
    go_enter Tryd.func11, Tryd.ntmps11
    go_wp2_with (first | ((with_reducible refine gate_dst (N := 4) rfl ?_); refine box_event ?hg (N := 4) ?hd (cs := #[.string (⟨#[]⟩ : ByteArray), .string (⟨#[]⟩ : ByteArray)]) (t := 27) ?hr ?_; (case hd => rfl); (case hg => rfl); (case hr => first | (go_simp; done) | (go_simp; rfl)); intro gb166 hg w5 hbox hb; have n0_ := Aside0.mk (below_step (by repeat (first | (with_reducible first | exact HB.out | apply below_alloc | apply pw_below_drewN | apply below_drew1) | exact HB.out)) hb); have n1_ := Aside0.mk (hbox); have n2_ := Aside0.mk ((by rw [hg]; exact (below_size (by repeat (first | (with_reducible first | exact HB.out | apply below_alloc | apply pw_below_drewN | apply below_drew1) | exact HB.out))) : w.heap.size ≤ gb166)); have n3_ := Aside0.mk ((by rw [hg]; exact (below_size (by repeat (first | (with_reducible first | exact HB.out | apply below_alloc | apply pw_below_drewN | apply below_drew1) | exact HB.out))) : w.heap.size ≤ gb166)); clear HB; have HB := n0_; have BK166 := n1_; have GW166 := n2_; have GE166 := n3_; clear n0_ n1_ n2_ n3_; clear hb hbox hg) | ((with_reducible refine gate_callee (f := 35) rfl ?_); refine goesL_ (some 8) rfl rfl Tryd.func35 (by kernel_rfl) rfl #[.int .i64 a0] rfl (by (try simp only [List.map_toArray, List.map_cons, List.map_nil]); first | done | rfl | (simp only [List.length_drop, List.length_take]; rfl)) ?_; (with_reducible refine (span_count.calls k a0 t167 _ A3.out).mono ?_); rintro e w' ⟨rfl, ⟨nd, rfl⟩⟩; refine ⟨_, rfl, ?_⟩; (try (rw [drewN_self w5]; generalize hq_ : World.drewN w5 _ = w5; have n0_ : Aside0 (w5.heap[gb166]? = some (.cells #[.string (⟨#[]⟩ : ByteArray), .string (⟨#[]⟩ : ByteArray)] 27 (0, 0))) := ⟨by rw [← hq_]; exact (by (with_reducible repeat (first | refine blk_drewN ?_ _ | refine blk_drew ?_ | refine blk_alloc ?_ _)); exact BK166.out)⟩; have n1_ : Aside0 (Below w.heap.size w w5) := ⟨by rw [← hq_]; exact (by repeat (first | (with_reducible first | exact HB.out | apply below_alloc | apply pw_below_drewN | apply below_drew1 | refine below_set ?_ GE166.out) | exact HB.out))⟩; clear BK166 HB hq_; have BK166 := n0_; have HB := n1_; clear n0_ n1_)); have hcz6_0 : w5.cell? ⟨gb166, 0, none⟩ = some (.string (⟨#[]⟩ : ByteArray)) := (blk_cell BK166.out 0).trans rfl; have hcz6_1 : w5.cell? ⟨gb166, 1, none⟩ = some (.string (⟨#[]⟩ : ByteArray)) := (blk_cell BK166.out 1).trans rfl; have hfz6_0 := blk_frozen BK166.out 0; have hfz6_1 := blk_frozen BK166.out 1))
    refine bodyPost_ret (results_ct rfl _ _ gb166 27 #[.string (⟨#[]⟩ : ByteArray), .string (⟨#[]⟩ : ByteArray)] (0, 0) _ rfl (by (with_reducible repeat (first | refine blk_drewN ?_ _ | refine blk_drew ?_ | refine blk_alloc ?_ _)); refine blk_put (cs := #[.string (⟨#[]⟩ : ByteArray), .string (⟨#[]⟩ : ByteArray)]) ?_ 1 _ rfl; (with_reducible repeat (first | refine blk_drewN ?_ _ | refine blk_drew ?_ | refine blk_alloc ?_ _)); refine blk_put (cs := #[.string (⟨#[]⟩ : ByteArray), .string (⟨#[]⟩ : ByteArray)]) ?_ 0 _ rfl; (with_reducible repeat (first | refine blk_drewN ?_ _ | refine blk_drew ?_ | refine blk_alloc ?_ _)); exact BK166.out) Tryd.underlying27 rfl (by kernel_rfl)) rfl ?_
    exact ⟨by first | rfl | (simp [errW_none, errW_some] <;> rfl) | (simp [*, errW_none, errW_some] <;> rfl), by repeat (first | (with_reducible first | exact HB.out | apply below_alloc | apply pw_below_drewN | apply below_drew1 | refine below_set ?_ GE166.out) | exact HB.out)⟩
  · rw [if_neg c4] at H
    have c4b0 : (t167 == 0) = false := beq_eq_false_iff_ne.mpr c4
    have c4b1 : (t167 != 0) = true := bne_iff_ne.mpr c4
    have HC7 := Aside0.mk H
    clear H
    go_enter Tryd.func11, Tryd.ntmps11
    go_upto_region 4 with (first | ((with_reducible refine gate_dst (N := 4) rfl ?_); refine box_event ?hg (N := 4) ?hd (cs := #[.string (⟨#[]⟩ : ByteArray), .string (⟨#[]⟩ : ByteArray)]) (t := 27) ?hr ?_; (case hd => rfl); (case hg => rfl); (case hr => first | (go_simp; done) | (go_simp; rfl)); intro gb166 hg w8 hbox hb; have n0_ := Aside0.mk (below_step (by repeat (first | (with_reducible first | exact HB.out | apply below_alloc | apply pw_below_drewN | apply below_drew1) | exact HB.out)) hb); have n1_ := Aside0.mk (hbox); have n2_ := Aside0.mk ((by rw [hg]; exact (below_size (by repeat (first | (with_reducible first | exact HB.out | apply below_alloc | apply pw_below_drewN | apply below_drew1) | exact HB.out))) : w.heap.size ≤ gb166)); have n3_ := Aside0.mk ((by rw [hg]; exact (below_size (by repeat (first | (with_reducible first | exact HB.out | apply below_alloc | apply pw_below_drewN | apply below_drew1) | exact HB.out))) : w.heap.size ≤ gb166)); clear HB; have HB := n0_; have BK166 := n1_; have GW166 := n2_; have GE166 := n3_; clear n0_ n1_ n2_ n3_; clear hb hbox hg) | ((with_reducible refine gate_callee (f := 35) rfl ?_); refine goesL_ (some 8) rfl rfl Tryd.func35 (by kernel_rfl) rfl #[.int .i64 a0] rfl (by (try simp only [List.map_toArray, List.map_cons, List.map_nil]); first | done | rfl | (simp only [List.length_drop, List.length_take]; rfl)) ?_; (with_reducible refine (span_count.calls k a0 t167 _ A3.out).mono ?_); rintro e w' ⟨rfl, ⟨nd, rfl⟩⟩; refine ⟨_, rfl, ?_⟩))
    (try simp only [Act.put, List.setIfInBounds_toArray, List.set_cons_zero, List.set_cons_succ])
    go_cut [18] (fun v18 wc => ∃ (kq : Nat) (x18_6 : Bool), v18 = .bool x18_6 ∧ Aside0 (span_Of.j0 kq a0 a1 x18_6 = some (r1, r2, r3)) ∧ Aside0 (kq ≤ k) ∧ Aside0 (wc.heap[gb166]? = some (.cells #[.string (⟨#[]⟩ : ByteArray), .string (⟨#[]⟩ : ByteArray)] 27 (0, 0))) ∧ Aside0 (Below w.heap.size w wc))
    case first =>
      have H := HC7.out
      clear HC7
      by_cases c9 : a1 < 0
      · rw [if_pos c9] at H
        have c9b0 : decide (a1 < 0) = true := decide_eq_true c9
        clear c9
        (first | rw [c9b0] | (simp only [i64_w, i32_w]; rw [c9b0]) | skip)
        have H' := Aside0.mk H
        clear H
        go_wp2
        go_meet
        case rel => exact ⟨_, (true), (by first | rfl | (simp; done) | (simp [*]; done)), H', ⟨by first | omega | exact Nat.le_refl _⟩, ⟨by (with_reducible repeat (first | refine blk_drewN ?_ _ | refine blk_drew ?_ | refine blk_alloc ?_ _)); exact BK166.out⟩, ⟨by repeat (first | (with_reducible first | exact HB.out | apply below_alloc | apply pw_below_drewN | apply below_drew1 | refine below_set ?_ GE166.out) | exact HB.out)⟩⟩
      · rw [if_neg c9] at H
        have c9b0 : decide (a1 < 0) = false := decide_eq_false c9
        clear c9
        (first | rw [c9b0] | (simp only [i64_w, i32_w]; rw [c9b0]) | skip)
        have H' := Aside0.mk H
        clear H
        go_wp2
        go_meet
        case rel => exact ⟨_, (decide (a1 ≥ t167)), (by first | rfl | (simp; done) | (simp [*]; done)), H', ⟨by first | omega | exact Nat.le_refl _⟩, ⟨by (with_reducible repeat (first | refine blk_drewN ?_ _ | refine blk_drew ?_ | refine blk_alloc ?_ _)); exact BK166.out⟩, ⟨by repeat (first | (with_reducible first | exact HB.out | apply below_alloc | apply pw_below_drewN | apply below_drew1 | refine below_set ?_ GE166.out) | exact HB.out)⟩⟩
    case rest =>
      clear HC7
      try clear c1
      try clear p2
      try clear c3
      try clear c4
      try clear c4b0
      try clear c4b1
      try clear c9
      try clear c9b0
      try clear hcz6_0
      try clear hcz6_1
      try clear hfz6_0
      try clear hfz6_1
      obtain ⟨kq, x18_6, rfl, HA, HJ6, BK166, HB⟩ := hcut
      cases kq with
      | zero => exact absurd HA.out (by simp [span_Of.j0])
      | succ kj6 =>
        have H := HA.out
        clear HA
        simp only [span_Of.j0] at H
        by_cases c10 : x18_6 = true
        · subst c10
          have H1 : (some ((⟨#[]⟩ : ByteArray), (⟨#[]⟩ : ByteArray), 62)) = some (r1, r2, r3) := by rw [if_pos rfl] at H; exact H
          clear H
          have H := H1
          clear H1
          simp only [Option.some.injEq, Prod.mk.injEq] at H
          obtain ⟨rfl, rfl, rfl⟩ := H
          have hcz11_0 : wc.cell? ⟨gb166, 0, none⟩ = some (.string (⟨#[]⟩ : ByteArray)) := (blk_cell BK166.out 0).trans rfl
          have hcz11_1 : wc.cell? ⟨gb166, 1, none⟩ = some (.string (⟨#[]⟩ : ByteArray)) := (blk_cell BK166.out 1).trans rfl
          have hfz11_0 := blk_frozen BK166.out 0
          have hfz11_1 := blk_frozen BK166.out 1
          go_wp2
          refine bodyPost_ret (results_ct rfl _ _ gb166 27 #[.string (⟨#[]⟩ : ByteArray), .string (⟨#[]⟩ : ByteArray)] (0, 0) _ rfl (by (with_reducible repeat (first | refine blk_drewN ?_ _ | refine blk_drew ?_ | refine blk_alloc ?_ _)); refine blk_put (cs := #[.string (⟨#[]⟩ : ByteArray), .string (⟨#[]⟩ : ByteArray)]) ?_ 1 _ rfl; (with_reducible repeat (first | refine blk_drewN ?_ _ | refine blk_drew ?_ | refine blk_alloc ?_ _)); refine blk_put (cs := #[.string (⟨#[]⟩ : ByteArray), .string (⟨#[]⟩ : ByteArray)]) ?_ 0 _ rfl; (with_reducible repeat (first | refine blk_drewN ?_ _ | refine blk_drew ?_ | refine blk_alloc ?_ _)); exact BK166.out) Tryd.underlying27 rfl (by kernel_rfl)) rfl ?_
          exact ⟨by first | rfl | (simp [errW_none, errW_some] <;> rfl) | (simp [*, errW_none, errW_some] <;> rfl), by repeat (first | (with_reducible first | exact HB.out | apply below_alloc | apply pw_below_drewN | apply below_drew1 | refine below_set ?_ GE166.out) | exact HB.out)⟩
        · replace c10 := Bool.eq_false_iff.mpr c10
          subst c10
          have H1 : ((span_least.f a0 a1).bind fun t168 => ((span_least.f a0 (wrap64 (a1 + 1))).bind fun t169 => (some (t168, t169, 0)))) = some (r1, r2, r3) := by rw [if_neg (show ¬ (false = true) by decide)] at H; exact H
          clear H
          have H := H1
          clear H1
          replace H := Option.bind_eq_some_iff.mp H
          obtain ⟨t168, A120, H⟩ := H
          replace H : ((span_least.f a0 (wrap64 (a1 + 1))).bind fun t169 => (some (t168, t169, 0))) = some (r1, r2, r3) := H
          have A12 := Aside0.mk A120
          clear A120
          replace H := Option.bind_eq_some_iff.mp H
          obtain ⟨t169, A130, H⟩ := H
          replace H : (some (t168, t169, 0)) = some (r1, r2, r3) := H
          have A13 := Aside0.mk A130
          clear A130
          simp only [Option.some.injEq, Prod.mk.injEq] at H
          obtain ⟨rfl, rfl, rfl⟩ := H
          go_wp2_with (first | ((with_reducible refine gate_callee (f := 37) rfl ?_); refine goesL_ (some 22) rfl rfl Tryd.func37 (by kernel_rfl) rfl #[.int .i64 a0, .int .i64 a1] rfl (by (try simp only [List.map_toArray, List.map_cons, List.map_nil]); first | done | rfl | (simp only [List.length_drop, List.length_take]; rfl)) ?_; (with_reducible refine (span_least.calls a0 a1 t168 _ A12.out).mono ?_); rintro e w14 ⟨rfl, hb⟩; refine ⟨_, rfl, ?_⟩; have n0_ := Aside0.mk (blk_below (g := gb166) (o := .cells #[.string (⟨#[]⟩ : ByteArray), .string (⟨#[]⟩ : ByteArray)] 27 (0, 0)) (by (with_reducible repeat (first | refine blk_drewN ?_ _ | refine blk_drew ?_ | refine blk_alloc ?_ _)); exact BK166.out) hb); have n1_ := Aside0.mk (below_step (by repeat (first | (with_reducible first | exact HB.out | apply below_alloc | apply pw_below_drewN | apply below_drew1 | refine below_set ?_ GE166.out) | exact HB.out)) hb); clear BK166; clear HB; have BK166 := n0_; have HB := n1_; clear n0_ n1_; (try clear hb); (try clear hb2); (try clear hk); (try clear hi)) | ((with_reducible refine gate_callee (f := 37) rfl ?_); refine goesL_ (some 26) rfl rfl Tryd.func37 (by kernel_rfl) rfl #[.int .i64 a0, .int .i64 (wrap64 (a1 + 1))] rfl (by (try simp only [List.map_toArray, List.map_cons, List.map_nil]); first | done | rfl | (simp only [List.length_drop, List.length_take]; rfl)) ?_; (with_reducible refine (span_least.calls a0 (wrap64 (a1 + 1)) t169 _ A13.out).mono ?_); rintro e w15 ⟨rfl, hb⟩; refine ⟨_, rfl, ?_⟩; have n0_ := Aside0.mk (blk_below (g := gb166) (o := .cells #[.string (⟨#[]⟩ : ByteArray), .string (⟨#[]⟩ : ByteArray)] 27 (0, 0)) (by (with_reducible repeat (first | refine blk_drewN ?_ _ | refine blk_drew ?_ | refine blk_alloc ?_ _)); exact BK166.out) hb); have n1_ := Aside0.mk (below_step (by repeat (first | (with_reducible first | exact HB.out | apply below_alloc | apply pw_below_drewN | apply below_drew1 | refine below_set ?_ GE166.out) | exact HB.out)) hb); clear BK166; clear HB; have BK166 := n0_; have HB := n1_; clear n0_ n1_; (try clear hb); (try clear hb2); (try clear hk); (try clear hi); have hcz16_0 : w15.cell? ⟨gb166, 0, none⟩ = some (.string (⟨#[]⟩ : ByteArray)) := (blk_cell BK166.out 0).trans rfl; have hcz16_1 : w15.cell? ⟨gb166, 1, none⟩ = some (.string (⟨#[]⟩ : ByteArray)) := (blk_cell BK166.out 1).trans rfl; have hfz16_0 := blk_frozen BK166.out 0; have hfz16_1 := blk_frozen BK166.out 1))
          refine bodyPost_ret (results_ct rfl _ _ gb166 27 #[.string t168, .string t169] (0, 0) _ rfl (by (with_reducible repeat (first | refine blk_drewN ?_ _ | refine blk_drew ?_ | refine blk_alloc ?_ _)); refine blk_put (cs := #[.string t168, .string (⟨#[]⟩ : ByteArray)]) ?_ 1 _ rfl; (with_reducible repeat (first | refine blk_drewN ?_ _ | refine blk_drew ?_ | refine blk_alloc ?_ _)); refine blk_put (cs := #[.string (⟨#[]⟩ : ByteArray), .string (⟨#[]⟩ : ByteArray)]) ?_ 0 _ rfl; (with_reducible repeat (first | refine blk_drewN ?_ _ | refine blk_drew ?_ | refine blk_alloc ?_ _)); exact BK166.out) Tryd.underlying27 rfl (by kernel_rfl)) rfl ?_
          exact ⟨by first | rfl | (simp [errW_none, errW_some] <;> rfl) | (simp [*, errW_none, errW_some] <;> rfl), by repeat (first | (with_reducible first | exact HB.out | apply below_alloc | apply pw_below_drewN | apply below_drew1 | refine below_set ?_ GE166.out) | exact HB.out)⟩

end Go.Proofs.YtmjmjjhfficilaaDoor.PSpanTouches

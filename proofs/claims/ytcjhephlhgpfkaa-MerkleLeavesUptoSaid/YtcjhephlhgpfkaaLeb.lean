/- What is proved: what the printed writers of a number answer: the bytes of a number, the same ones for all three; the conditions stand in the theorems. -/
import Derived.Test.YtcjhephlhgpfkaaPMerkleLeavesx2
namespace Go.Proofs.Ytcjhephlhgpfkaa.Sha
open Go.RowKit Go.Proofs.YtcjhephlhgpfkaaW.PrintWords Go.Proofs.YtcjhephlhgpfkaaW.PrintLast Go.Proofs.Ytcjhephlhgpfkaa.PMerkleLeaves
set_option linter.unusedVariables false
set_option linter.unusedSimpArgs false
/-- The bytes of a number, seven bits each, the least first. -/
def lebN : Nat → Nat → List Int
  | 0, n => [(n : Int)]
  | k + 1, n => if n ≤ 127 then [(n : Int)] else ((n % 128 + 128 : Nat) : Int) :: lebN k (n / 128)
theorem lebN_length : ∀ k n, (lebN k n).length ≤ k + 1
  | 0, _ => by simp [lebN]
  | k + 1, n => by
    rw [lebN]
    split
    · simp
    · have := lebN_length k (n / 128); simp; omega
theorem lebN_bytes : ∀ k n, n < 128 ^ (k + 1) → ∀ x ∈ lebN k n, 0 ≤ x ∧ x ≤ 255
  | 0, n, h, x, hx => by simp [lebN] at hx; omega
  | k + 1, n, h, x, hx => by
    rw [lebN] at hx
    split at hx
    · simp at hx; omega
    · rcases List.mem_cons.1 hx with rfl | hx
      · omega
      · refine lebN_bytes k (n / 128) ?_ x hx
        rw [Nat.pow_succ] at h
        omega
theorem or128 (m : Nat) (h : m < 256) : Go.bits .or .u8 (m : Int) 128 = ((m % 128 + 128 : Nat) : Int) := by
  have : ∀ m : Fin 256, Go.bits .or .u8 (m.val : Int) 128 = ((m.val % 128 + 128 : Nat) : Int) := by decide +kernel
  exact this ⟨m, h⟩
theorem put_law : ∀ (k n : Nat) (x0 : List Int), n < 128 ^ (k + 1) → x0.length + k < 140737488355328 → leb_put.l0 (k + 1) x0 (n : Int) = some (x0 ++ lebN k n)
  | 0, n, x0, h, hl => by
    simp only [leb_put.l0]
    rw [if_neg (by omega), if_pos (by omega), lebN, show (n : Int) % 256 = n by omega]
  | k + 1, n, x0, h, hl => by
    rw [leb_put.l0, lebN]
    by_cases h1 : n ≤ 127
    · rw [if_neg (by omega), if_pos (by omega), if_pos h1, show (n : Int) % 256 = n by omega]
    · have h2 : n / 128 < 128 ^ (k + 1) := by rw [Nat.pow_succ] at h; omega
      rw [if_pos (by omega), if_pos (by omega), if_neg h1, show (n : Int) % 256 = ((n % 256 : Nat) : Int) by omega, or128 _ (by omega), show (n : Int) / 128 = ((n / 128 : Nat) : Int) by omega, put_law k (n / 128) _ h2 (by simp; omega)]
      rw [show n % 256 % 128 = n % 128 by omega, List.append_assoc]
      rfl
theorem wrap_in {n : Nat} (h : n < 18446744073709551616) : IntKind.u64.wrap (n : Int) = n := by
  simp [IntKind.wrap, IntKind.signed, IntKind.bits]; omega
theorem number_law : ∀ (k n : Nat) (x0 : List Int), n < 128 ^ (k + 1) → n < 18446744073709551616 → x0.length + k < 140737488355328 → hawserref10_number.l0 (k + 1) (n : Int) x0 = some (x0 ++ lebN k n)
  | 0, n, x0, h, hn, hl => by
    simp only [hawserref10_number.l0]
    rw [if_neg (by omega), if_pos (by omega), lebN, show (n : Int) % 256 = n by omega]
  | k + 1, n, x0, h, hn, hl => by
    rw [hawserref10_number.l0, lebN]
    by_cases h1 : n ≤ 127
    · rw [if_neg (by omega), if_pos (by omega), if_pos h1, show (n : Int) % 256 = n by omega]
    · have h2 : n / 128 < 128 ^ (k + 1) := by rw [Nat.pow_succ] at h; omega
      have e1 : Int.tdiv (n : Int) 128 = ((n / 128 : Nat) : Int) := rfl
      have e2 : Int.tmod (n : Int) 128 = ((n % 128 : Nat) : Int) := rfl
      rw [if_pos (by omega), if_pos (by omega), if_neg h1, e1, e2, wrap_in (by omega), show ((n % 128 : Nat) : Int) + 128 = ((n % 128 + 128 : Nat) : Int) by omega, wrap_in (by omega), number_law k (n / 128) _ h2 (by omega) (by simp; omega)]
      rw [show ((n % 128 + 128 : Nat) : Int) % 256 = ((n % 128 + 128 : Nat) : Int) by omega, List.append_assoc]
      rfl
theorem number8_law : ∀ (k n : Nat) (x0 : List Int), n < 128 ^ (k + 1) → n < 9223372036854775808 → x0.length + k < 140737488355328 → hawserref08_number.l0 (k + 1) (n : Int) x0 = some (x0 ++ lebN k n)
  | 0, n, x0, h, hn, hl => by
    simp only [hawserref08_number.l0]
    rw [if_neg (by omega), if_pos (by omega), lebN, show (n : Int) % 256 = n by omega]
  | k + 1, n, x0, h, hn, hl => by
    rw [hawserref08_number.l0, lebN]
    by_cases h1 : n ≤ 127
    · rw [if_neg (by omega), if_pos (by omega), if_pos h1, show (n : Int) % 256 = n by omega]
    · have h2 : n / 128 < 128 ^ (k + 1) := by rw [Nat.pow_succ] at h; omega
      have e1 : Int.tdiv (n : Int) 128 = ((n / 128 : Nat) : Int) := rfl
      have e2 : Int.tmod (n : Int) 128 = ((n % 128 : Nat) : Int) := rfl
      have w1 : ∀ m : Nat, m < 9223372036854775808 → wrap64 (m : Int) = m := fun m hm => IntWalk.wrap64_in _ (by omega)
      rw [if_pos (by omega), if_pos (by omega), if_neg h1, e1, e2, w1 _ (by omega), show ((n % 128 : Nat) : Int) + 128 = ((n % 128 + 128 : Nat) : Int) by omega, w1 _ (by omega), number8_law k (n / 128) _ h2 (by omega) (by simp; omega)]
      rw [show ((n % 128 + 128 : Nat) : Int) % 256 = ((n % 128 + 128 : Nat) : Int) by omega, List.append_assoc]
      rfl
/-- The bytes of a number below 2 to the 64. -/
def lebB (n : Int) : List Int := lebN 9 n.toNat
theorem lebB_length (n : Int) : (lebB n).length ≤ 10 := lebN_length 9 _
theorem lebB_bytes (n : Int) (h : n < 18446744073709551616) : ∀ x ∈ lebB n, 0 ≤ x ∧ x ≤ 255 := lebN_bytes 9 _ (by omega)
theorem encode_law (n : Int) (h0 : 0 ≤ n) (h : n < 18446744073709551616) : leb_Encode.f 12 [n] = some (lebB n) := by
  obtain ⟨m, rfl⟩ := Int.eq_ofNat_of_zero_le h0
  have hp : leb_put.f 11 [] ((rd [(m : Int)] 0)) = some (lebB m) := by
    show leb_put.l0 11 [] ((rd [(m : Int)] 0)) = _
    rw [show rd [(m : Int)] 0 = (m : Int) from rfl]
    rw [show leb_put.l0 11 [] (m : Int) = some ([] ++ lebN 9 m) from ?_]
    · rfl
    · have h1 := put_law 9 m [] (by omega) (by decide)
      have h2 := leb_put.mono [] (m : Int) 10 _ h1
      exact h2
  unfold leb_Encode.f
  have z : ((([(m : Int)] : List Int).length : Nat) : Int) = 1 := rfl
  rw [z, leb_Encode.l0, if_pos (by decide), if_pos (by decide), if_pos (by rw [z]; decide), hp]
  show leb_Encode.l0 11 (lebB m) [(m : Int)] 1 (wrap64 (0 + 1)) = _
  rw [leb_Encode.l0, if_neg (by rw [show (0 : Int) + 1 = 1 from rfl, IntWalk.wrap64_in 1 (by omega)]; decide)]
theorem number25_law (n : Int) (h0 : 0 ≤ n) (h : n < 18446744073709551616) : hawserref10_number.f 10 n = some (lebB n) := by
  obtain ⟨m, rfl⟩ := Int.eq_ofNat_of_zero_le h0
  exact number_law 9 m [] (by omega) (by omega) (by decide)
theorem number24_law (n : Int) (h0 : 0 ≤ n) (h : n < 9223372036854775808) : hawserref08_Number.f 10 n = some (lebB n) := by
  obtain ⟨m, rfl⟩ := Int.eq_ofNat_of_zero_le h0
  have h1 : hawserref08_number.f 10 (m : Int) = some (lebB m) := number8_law 9 m [] (by omega) (by omega) (by decide)
  unfold hawserref08_Number.f
  rw [h1]
  rfl
end Go.Proofs.Ytcjhephlhgpfkaa.Sha

/- What is proved: the word of four bytes is their sum; plain, for bytes. -/
import Derived.Test.YtcjhephlhgpfkaaSha0
namespace Go.Proofs.Ytcjhephlhgpfkaa.Sha
theorem bits_or_add (a y k : Nat) (hy : y < 2 ^ k) (hs : 2 ^ k * a + y < 4294967296) : bits .or .u32 ((2 ^ k * a : Nat) : Int) (y : Int) = ((2 ^ k * a + y : Nat) : Int) := by
  have hb : IntKind.u32.bits = 32 := rfl
  unfold bits
  simp only []
  rw [BitVec.toNat_or, hb]
  have e1 : (BitVec.ofInt 32 ((2 ^ k * a : Nat) : Int)).toNat = 2 ^ k * a := by
    rw [BitVec.ofInt_natCast, BitVec.toNat_ofNat, Nat.mod_eq_of_lt (by omega)]
  have e2 : (BitVec.ofInt 32 (y : Int)).toNat = y := by
    rw [BitVec.ofInt_natCast, BitVec.toNat_ofNat, Nat.mod_eq_of_lt (by omega)]
  rw [e1, e2, ← Nat.two_pow_add_eq_or_of_lt hy, IntKind.wrap_u32]
  omega
theorem word4_sum (a b c d : Int) (ha : 0 ≤ a ∧ a ≤ 255) (hb : 0 ≤ b ∧ b ≤ 255) (hc : 0 ≤ c ∧ c ≤ 255) (hd : 0 ≤ d ∧ d ≤ 255) : word4 a b c d = a * 16777216 + b * 65536 + c * 256 + d := by
  obtain ⟨a, rfl⟩ := Int.eq_ofNat_of_zero_le ha.1
  obtain ⟨b, rfl⟩ := Int.eq_ofNat_of_zero_le hb.1
  obtain ⟨c, rfl⟩ := Int.eq_ofNat_of_zero_le hc.1
  obtain ⟨d, rfl⟩ := Int.eq_ofNat_of_zero_le hd.1
  unfold word4
  have h1 := bits_or_add a (b * 65536) 24 (by omega) (by omega)
  have h2 := bits_or_add (a * 256 + b) (c * 256) 16 (by omega) (by omega)
  have h3 := bits_or_add (a * 65536 + b * 256 + c) d 8 (by omega) (by omega)
  rw [show (a : Int) * 16777216 = ((2 ^ 24 * a : Nat) : Int) by omega, show (b : Int) * 65536 = ((b * 65536 : Nat) : Int) by omega, h1,
    show ((2 ^ 24 * a + b * 65536 : Nat) : Int) = ((2 ^ 16 * (a * 256 + b) : Nat) : Int) by omega, show (c : Int) * 256 = ((c * 256 : Nat) : Int) by omega, h2,
    show ((2 ^ 16 * (a * 256 + b) + c * 256 : Nat) : Int) = ((2 ^ 8 * (a * 65536 + b * 256 + c) : Nat) : Int) by omega, h3]

  omega
end Go.Proofs.Ytcjhephlhgpfkaa.Sha

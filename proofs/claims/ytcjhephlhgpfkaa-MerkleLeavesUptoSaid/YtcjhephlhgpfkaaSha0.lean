/- What is proved: plain facts on SHA-256's words, no program in sight; no condition. -/
import Derived.WalkKit
set_option linter.unusedSimpArgs false
set_option linter.unusedVariables false
namespace Go.Proofs.Ytcjhephlhgpfkaa.Sha
def turnI (x n : Int) : Int := bits .or .u32 (x / 2 ^ n.toNat) (x * 2 ^ (32 - n).toNat % 4294967296)
def word4 (a b c d : Int) : Int := bits .or .u32 (bits .or .u32 (bits .or .u32 (a * 16777216) (b * 65536)) (c * 256)) d
def sig0 (x : Int) : Int := bits .xor .u32 (bits .xor .u32 (turnI x 7) (turnI x 18)) (x / 8)
def sig1 (x : Int) : Int := bits .xor .u32 (bits .xor .u32 (turnI x 17) (turnI x 19)) (x / 1024)
def wv (B : Nat → Int) (i : Nat) : Int :=
  if h : i < 16 then word4 (B (4 * i)) (B (4 * i + 1)) (B (4 * i + 2)) (B (4 * i + 3))
  else IntKind.u32.wrap (IntKind.u32.wrap (IntKind.u32.wrap (wv B (i - 16) + sig0 (wv B (i - 15))) + wv B (i - 7)) + sig1 (wv B (i - 2)))
termination_by i
/-- Sixty-four words: the first i are told, the others are 0. -/
def Row64 (f : Nat → Int) (i : Nat) : Array Value := ((List.range 64).map fun j => Value.int .u32 (if j < i then f j else 0)).toArray
theorem row64_at (f : Nat → Int) (i j : Nat) (hj : j < 64) : (Row64 f i)[j]? = some (.int .u32 (if j < i then f j else 0)) := by
  simp [Row64, hj]
theorem row64_set (f : Nat → Int) (i : Nat) (hi : i < 64) : (Row64 f i).setIfInBounds i (.int .u32 (f i)) = Row64 f (i + 1) := by
  apply Array.ext_getElem?
  intro j
  rcases Nat.lt_or_ge j 64 with hj | hj
  · rw [row64_at f (i + 1) j hj, Array.getElem?_setIfInBounds, row64_at f i j hj]
    by_cases e : i = j
    · subst e
      simp [Row64, hi]
    · rw [if_neg e]
      by_cases h : j < i
      · rw [if_pos h, if_pos (by omega)]
      · rw [if_neg h, if_neg (by omega)]
  · simp [Row64, hj]
theorem row64_size (f : Nat → Int) (i : Nat) : (Row64 f i).size = 64 := by simp [Row64]
def rkL : List Int := [1116352408, 1899447441, 3049323471, 3921009573, 961987163, 1508970993, 2453635748, 2870763221, 3624381080, 310598401, 607225278, 1426881987, 1925078388, 2162078206, 2614888103, 3248222580, 3835390401, 4022224774, 264347078, 604807628, 770255983, 1249150122, 1555081692, 1996064986, 2554220882, 2821834349, 2952996808, 3210313671, 3336571891, 3584528711, 113926993, 338241895, 666307205, 773529912, 1294757372, 1396182291, 1695183700, 1986661051, 2177026350, 2456956037, 2730485921, 2820302411, 3259730800, 3345764771, 3516065817, 3600352804, 4094571909, 275423344, 430227734, 506948616, 659060556, 883997877, 958139571, 1322822218, 1537002063, 1747873779, 1955562222, 2024104815, 2227730452, 2361852424, 2428436474, 2756734187, 3204031479, 3329325298]
def rk (j : Nat) : Int := rkL.getD j 0
theorem row_rk : Row64 rk 64 = (rkL.map (Value.int .u32)).toArray := by rfl
def S8 (x : Nat → Int) : Array Value := #[.int .u32 (x 0), .int .u32 (x 1), .int .u32 (x 2), .int .u32 (x 3), .int .u32 (x 4), .int .u32 (x 5), .int .u32 (x 6), .int .u32 (x 7)]
theorem s8_eq (x : Nat → Int) : S8 x = ((List.range 8).map fun j => Value.int .u32 (x j)).toArray := rfl
theorem s8_at (x : Nat → Int) (i : Nat) (h : i < 8) : (S8 x)[i]? = some (.int .u32 (x i)) := by
  rw [s8_eq]; simp [h]
theorem s8_set (x : Nat → Int) (i : Nat) (v : Int) : (S8 x).setIfInBounds i (.int .u32 v) = S8 (fun j => if j = i then v else x j) := by
  apply Array.ext_getElem?
  intro j
  rcases Nat.lt_or_ge j 8 with hj | hj
  · rw [s8_at _ j hj, Array.getElem?_setIfInBounds, s8_at _ j hj]
    by_cases e : i = j
    · subst e
      simp [S8, hj]
    · rw [if_neg e, if_neg (Ne.symm e)]
  · rw [Array.getElem?_eq_none (by simp [S8]; omega), Array.getElem?_eq_none (by simp [S8]; omega)]
/-- The first i words have the elder ones added. -/
def mixS (x s : Nat → Int) (i : Nat) (j : Nat) : Int := if j < i then (x j + s j) % 4294967296 else x j
theorem mix_set (x s : Nat → Int) (i : Nat) : (fun j => if j = i then (x i + s i) % 4294967296 else mixS x s i j) = mixS x s (i + 1) := by
  funext j
  unfold mixS
  by_cases e : j = i
  · subst e; simp
  · rw [if_neg e]
    by_cases h : j < i
    · rw [if_pos h, if_pos (by omega)]
    · rw [if_neg h, if_neg (by omega)]
theorem mix_at (x s : Nat → Int) (i : Nat) : mixS x s i i = x i := by simp [mixS]
/-- One of the 64 rounds. -/
def tS (B : Nat → Int) (i : Nat) (x : Nat → Int) : Int :=
  (x 7 + bits .xor .u32 (bits .xor .u32 (turnI (x 4) 6) (turnI (x 4) 11)) (turnI (x 4) 25) + bits .xor .u32 (bits .and .u32 (x 4) (x 5)) (bits .and .u32 (bits .xor .u32 IntKind.u32.max (x 4)) (x 6)) + rk i + wv B i) % 4294967296
def uS (x : Nat → Int) : Int :=
  (bits .xor .u32 (bits .xor .u32 (turnI (x 0) 2) (turnI (x 0) 13)) (turnI (x 0) 22) + bits .xor .u32 (bits .xor .u32 (bits .and .u32 (x 0) (x 1)) (bits .and .u32 (x 0) (x 2))) (bits .and .u32 (x 1) (x 2))) % 4294967296
def stepS (B : Nat → Int) (i : Nat) (x : Nat → Int) : Nat → Int
  | 0 => (tS B i x + uS x) % 4294967296
  | 1 => x 0
  | 2 => x 1
  | 3 => x 2
  | 4 => (x 3 + tS B i x) % 4294967296
  | 5 => x 4
  | 6 => x 5
  | 7 => x 6
  | _ => 0
def stS (B : Nat → Int) (s : Nat → Int) : Nat → Nat → Int
  | 0 => s
  | i + 1 => stepS B i (stS B s i)
theorem mix_all (x s : Nat → Int) : S8 (mixS x s 8) = S8 (fun j => (x j + s j) % 4294967296) := rfl
def blockS (B : Nat → Int) (s : Nat → Int) (j : Nat) : Int := (stS B s 64 j + s j) % 4294967296
end Go.Proofs.Ytcjhephlhgpfkaa.Sha

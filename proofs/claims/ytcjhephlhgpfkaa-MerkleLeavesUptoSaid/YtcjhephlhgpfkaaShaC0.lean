/- What is proved: plain facts on the 32 bytes of eight words; no condition. -/
import Derived.Test.YtcjhephlhgpfkaaSha0
import Derived.Laws.Rows
set_option linter.unusedSimpArgs false
namespace Go.Proofs.Ytcjhephlhgpfkaa.Sha
def byteS (x : Nat → Int) (j : Nat) : Int := x (j / 4) / 2 ^ (24 - 8 * (j % 4)) % 256
def Row32 (f : Nat → Int) (i : Nat) : Array Value := ((List.range 32).map fun j => Value.int .u8 (if j < i then f j else 0)).toArray
theorem row32_at (f : Nat → Int) (i j : Nat) (hj : j < 32) : (Row32 f i)[j]? = some (.int .u8 (if j < i then f j else 0)) := by
  simp [Row32, hj]
theorem row32_set (f : Nat → Int) (i : Nat) (hi : i < 32) : (Row32 f i).setIfInBounds i (.int .u8 (f i)) = Row32 f (i + 1) := by
  apply Array.ext_getElem?
  intro j
  rcases Nat.lt_or_ge j 32 with hj | hj
  · rw [row32_at f (i + 1) j hj, Array.getElem?_setIfInBounds, row32_at f i j hj]
    by_cases e : i = j
    · subst e
      simp [Row32, hi]
    · rw [if_neg e]
      by_cases h : j < i
      · rw [if_pos h, if_pos (by omega)]
      · rw [if_neg h, if_neg (by omega)]
  · simp [Row32, hj]
theorem byte0 (x : Nat → Int) (i : Nat) : byteS x (4 * i) = x i / 16777216 % 256 := by
  unfold byteS; rw [show 4 * i / 4 = i by omega, show 4 * i % 4 = 0 by omega]; rfl
theorem byte1 (x : Nat → Int) (i : Nat) : byteS x (4 * i + 1) = x i / 65536 % 256 := by
  unfold byteS; rw [show (4 * i + 1) / 4 = i by omega, show (4 * i + 1) % 4 = 1 by omega]; rfl
theorem byte2 (x : Nat → Int) (i : Nat) : byteS x (4 * i + 2) = x i / 256 % 256 := by
  unfold byteS; rw [show (4 * i + 2) / 4 = i by omega, show (4 * i + 2) % 4 = 2 by omega]; rfl
theorem byte3 (x : Nat → Int) (i : Nat) : byteS x (4 * i + 3) = x i % 256 := by
  unfold byteS; rw [show (4 * i + 3) / 4 = i by omega, show (4 * i + 3) % 4 = 3 by omega]; simp
theorem lay4 {w : World} {g : Nat} {x : Nat → Int} {i : Nat} (hi : i < 8) (h : w.heap[g]? = some (.cells (Row32 (byteS x) (4 * i)) 23 (0, 0))) :
    ((((w.setCell ⟨g, 4 * i, none⟩ (.int .u8 (x i / 16777216 % 256))).setCell ⟨g, 4 * i + 1, none⟩ (.int .u8 (x i / 65536 % 256))).setCell ⟨g, 4 * i + 2, none⟩ (.int .u8 (x i / 256 % 256))).setCell ⟨g, 4 * i + 3, none⟩ (.int .u8 (x i % 256))).heap[g]? =
      some (.cells (Row32 (byteS x) (4 * (i + 1))) 23 (0, 0)) := by
  have h1 := heap_setCell_same _ g (4 * i) _ 23 (.int .u8 (byteS x (4 * i))) h
  rw [row32_set _ _ (by omega)] at h1
  have h2 := heap_setCell_same _ g (4 * i + 1) _ 23 (.int .u8 (byteS x (4 * i + 1))) h1
  rw [row32_set _ _ (by omega)] at h2
  have h3 := heap_setCell_same _ g (4 * i + 2) _ 23 (.int .u8 (byteS x (4 * i + 2))) h2
  rw [row32_set _ _ (by omega)] at h3
  have h4 := heap_setCell_same _ g (4 * i + 3) _ 23 (.int .u8 (byteS x (4 * i + 3))) h3
  rw [row32_set _ _ (by omega), byte0, byte1, byte2, byte3] at h4
  rw [show 4 * (i + 1) = 4 * i + 3 + 1 by omega]
  exact h4
def beginL : List Int := [1779033703, 3144134277, 1013904242, 2773480762, 1359893119, 2600822924, 528734635, 1541459225]
def beginS (j : Nat) : Int := beginL.getD j 0
theorem s8_begin : S8 beginS = (beginL.map (Value.int .u32)).toArray := rfl
/-- A hasher's cells. -/
def Hc (s : Nat → Int) (rest : Value) (n : Int) : Array Value := #[.int .u32 (s 0), .int .u32 (s 1), .int .u32 (s 2), .int .u32 (s 3), .int .u32 (s 4), .int .u32 (s 5), .int .u32 (s 6), .int .u32 (s 7), rest, .int .u64 n, .bool true]
/-- The state behind k blocks. -/
def stB (L : List Int) (s : Nat → Int) : Nat → Nat → Int
  | 0 => s
  | k + 1 => blockS (fun i => L.getD (64 * k + i) 0) (stB L s k)
end Go.Proofs.Ytcjhephlhgpfkaa.Sha

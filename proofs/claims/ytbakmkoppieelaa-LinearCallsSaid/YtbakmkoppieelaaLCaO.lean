/- What is proved: rows as they come in read as the walk of LinearCalls wants them; the conditions stand in the theorems. -/
import Derived.Test.YtbakmkoppieelaaLCaW
namespace Go.Proofs.Ytbakmkoppieelaa.PLinearChecks
open Go.RowKit Go.Proofs.YtbakmkoppieelaaW.PrintWords Go.Proofs.YtbakmkoppieelaaW.PrintLast Go.Proofs.YtbakmkoppieelaaW.PrintMore
set_option linter.unusedVariables false
set_option linter.unusedSimpArgs false
/-! #### the rows as they come in -/
abbrev TU := Int × Int × Int × S32
abbrev TN := Int × Int × Int × Int × Int × Int × Int × Int × Bool × ByteArray × S32 × TU × S35 × S37 × Bool × (Int × List Int) × (Int × List S37) × (Int × Int × List Int)
def kUpd : Kd TU := Kd.iso (Kd.pair (Kd.int .i64) (Kd.pair (Kd.int .i64) (Kd.pair (Kd.int .i64) k32))) (fun x => x)
def kCfg : Kd (Int × List Int) := Kd.iso (Kd.pair (Kd.int .i64) (Kd.slice 3 (Kd.int .i64))) (fun x => x)
def kSta : Kd (Int × List S37) := Kd.iso (Kd.pair (Kd.int .i64) (Kd.slice 37 k37)) (fun x => x)
def kPkt : Kd (Int × Int × List Int) := Kd.iso (Kd.pair (Kd.int .i64) (Kd.pair (Kd.int .i64) (Kd.slice 5 (Kd.int .u8)))) (fun x => x)
def kSeen : Kd TN := Kd.iso (Kd.pair (Kd.int .i64) (Kd.pair (Kd.int .i64) (Kd.pair (Kd.int .i64) (Kd.pair (Kd.int .i64) (Kd.pair (Kd.int .i64) (Kd.pair (Kd.int .i64) (Kd.pair (Kd.int .i64) (Kd.pair (Kd.int .i64) (Kd.pair Kd.bool (Kd.pair Kd.string (Kd.pair k32 (Kd.pair kUpd (Kd.pair k35 (Kd.pair k37 (Kd.pair Kd.bool (Kd.pair kCfg (Kd.pair kSta kPkt))))))))))))))))) (fun x => x)
def toAsk : TN → Ask := fun (k, _, _, c, n, _, _, _, rd, ky, op, _, rs, rw, f, _) => ⟨k, c, n, rd, ky, op, rs, rw, f⟩
def zTN : TN := (0, 0, 0, 0, 0, 0, 0, 0, false, ⟨#[]⟩, z32, (0, 0, 0, z32), z35, z37, false, (0, []), (0, []), (0, 0, []))
theorem seen_open {w : World} {x : TN} {cs : List Value} (h : kSeen.K w x cs) : ∃ z : Nat → Value, (∀ k, (z k).oneCell' = true) ∧ cs = seenL (toAsk x) z := by
  have h1 := kSeen.K_one h
  refine ⟨fun k => cs.getD k (.int .i64 0), fun k => ?_, ?_⟩
  · show (cs.getD k (.int .i64 0)).oneCell' = true
    rw [List.getD_eq_getElem?_getD]
    cases hq : cs[k]? with
    | none => rfl
    | some y => exact h1 y (List.mem_of_getElem? hq)
  · obtain ⟨x0, x1, x2, x3, x4, x5, x6, x7, x8, x9, x10, ⟨u0, u1, u2, u3⟩, x12, x13, x14, ⟨c0, c1⟩, ⟨s0, s1⟩, ⟨p0, p1, p2⟩⟩ := x
    clear h1
    obtain ⟨_, _, rfl, rfl, ⟨_, _, rfl, rfl, ⟨_, _, rfl, rfl, ⟨_, _, rfl, rfl, ⟨_, _, rfl, rfl, ⟨_, _, rfl, rfl, ⟨_, _, rfl, rfl, ⟨_, _, rfl, rfl, ⟨_, _, rfl, rfl, ⟨_, _, rfl, rfl, ⟨_, _, rfl, q10, ⟨_, _, rfl, ⟨_, _, rfl, rfl, ⟨_, _, rfl, rfl, ⟨_, _, rfl, rfl, q11⟩⟩⟩, ⟨_, _, rfl, q12, ⟨_, _, rfl, q13, ⟨_, _, rfl, rfl, ⟨_, _, rfl, ⟨_, _, rfl, rfl, ⟨A1, n1, rfl, _⟩⟩, ⟨_, _, rfl, ⟨_, _, rfl, rfl, ⟨A2, n2, rfl, _⟩⟩, ⟨_, _, rfl, rfl, ⟨_, _, rfl, rfl, ⟨A3, n3, rfl, _⟩⟩⟩⟩⟩⟩⟩⟩⟩⟩⟩⟩⟩⟩⟩⟩⟩⟩⟩⟩ := h
    obtain rfl := k32_open q10
    obtain rfl := k32_open q11
    obtain rfl := k35_open q12
    obtain rfl := k37_open q13
    rfl
theorem RS_of {w : World} {A : Option Addr} {xs : List TN} (h : Kd.C kSeen w A xs.length xs) : RS w A (xs.map toAsk) := by
  intro W hb i hi
  have hi2 : i < xs.length := by simpa using hi
  obtain ⟨ad, c, e, _, hK, hc0⟩ := Kd.C_get (Kd.C_below h hb) zTN (i : Int) (by omega) (by omega)
  obtain ⟨z, zo, rfl⟩ := seen_open hK
  refine ⟨ad, z, e, zo, fun j v hv => ?_⟩
  have h2 : (xs.map toAsk)[i] = toAsk (xs.getD ((i : Int)).toNat zTN) := by
    rw [List.getElem_map, Int.toNat_natCast, List.getD_eq_getElem?_getD, List.getElem?_eq_getElem hi2]
    rfl
  rw [h2] at hv
  have h3 : W.cell? (ad.add (((i : Int)).toNat * 34 + j)) = some v := hc0 j v hv
  rw [add_add]
  rw [Int.toNat_natCast] at h3
  exact h3
theorem calls_all (w : World) (A : Option Addr) (c : Nat) (xs : List TN) (h : Kd.C kSeen w A xs.length xs) (hc : xs.length ≤ c) (hn : xs.length * 168 ≤ 140737488351232) :
    Calls Try.prog 5 #[.slice A xs.length c] w fun e w' => e = .returned (.bool true) ∧ Below w.heap.size w w' := by
  have h2 := calls_walk w A c (xs.map toAsk) (RS_of h) (by rw [List.length_map]; exact hc) (by rw [List.length_map]; exact hn)
  rw [List.length_map] at h2
  exact h2
end Go.Proofs.Ytbakmkoppieelaa.PLinearChecks

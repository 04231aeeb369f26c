/-
  No cell of these rows narrows 'for every input' (looked for: loops, veiled, ifaces, maps, wideKeys, modest, calm, conditions, laid).
  DERIVED. THE GIVEN ROWS OF THIS SEAT. 11 by the template 'for every input the law returns true; each argument reads behind the call as it read before'; 0 by the template 'total and deterministic' (their statements: YtbakmkoppieelaaTotals.lean).
  GIVEN WITH THE SEED: the statements are not yours to turn. If you find one false, say at which input.
  Laid BY PROGRAM, IN A SANDBOX (cutbox-rows.mjs): the forced cells as the released guide's own fill.sh prints them over the translation 20883bcb92a1bd55… (all of the seat's roots in one cut). By AI agents, Wed Nov 11 2026. No macro, syntax, notation, axiom, sorry.
-/
import Derived.Test.YtbakmkoppieelaaChecked
import GoSem.Claim
import GoSem.ClaimJoined
import GoSem.ClaimMapViews
import Derived.JoinedTies
import Derived.KernelRfl
namespace Go.Proofs.Ytbakmkoppieelaa
/- THE CELL 'sum', in the pinned program and in every row, IS THE sha256 OF THE DUMP (.gsa) THAT YtbakmkoppieelaaProg.lean LOADS. Nothing in Lean hashes anything: it is a label: what it is worth is what the hold of that sum in a sandbox is worth. -/
noncomputable def Try.pinned : Pinned := { name := "ytbakmkoppieelaa", sum := "20883bcb92a1bd554abf2f73d1deeafeaafe003967c3bba4010cbb788e2b7c3e", checked := Try.checked }
namespace Rows
def none {H : Type} : Left H := { results := [], args := [] }

/-- 'hawserlaw26.LinearChecks': WHATEVER THE INPUT: true; the input reads as it did. -/
def linearChecksSpec : ChangeSpec := { name := "linearChecks", fn := fun _ => fun
  | [d] => { results := [.lit (.bool true)], args := [d] }
  | _ => none }
def linearChecksRow : OpenClaim := { program := "ytbakmkoppieelaa", sum := "20883bcb92a1bd554abf2f73d1deeafeaafe003967c3bba4010cbb788e2b7c3e", func := "hawser/hawserlaw26.LinearChecks", spec := "linearChecks", apart := false }
def LinearChecksSaid : Prop := linearChecksRow.holds Try.pinned (OpenSpec.ofChange linearChecksSpec)

/-- ITS FALSE NEIGHBOUR: 'it returns false'. Refute it at one input. -/
def linearChecksWrong : ChangeSpec := { name := "linearChecks", fn := fun _ => fun
  | [d] => { results := [.lit (.bool false)], args := [d] }
  | _ => none }
def LinearChecksWrongFalsely : Prop := linearChecksRow.holds Try.pinned (OpenSpec.ofChange linearChecksWrong)

/-- 'hawserlaw26.LinearCuts': WHATEVER THE INPUT: true; the input reads as it did. -/
def linearCutsSpec : ChangeSpec := { name := "linearCuts", fn := fun _ => fun
  | [d1, d2, d3] => { results := [.lit (.bool true)], args := [d1, d2, d3] }
  | _ => none }
def linearCutsRow : OpenClaim := { program := "ytbakmkoppieelaa", sum := "20883bcb92a1bd554abf2f73d1deeafeaafe003967c3bba4010cbb788e2b7c3e", func := "hawser/hawserlaw26.LinearCuts", spec := "linearCuts", apart := false }
def LinearCutsSaid : Prop := linearCutsRow.holds Try.pinned (OpenSpec.ofChange linearCutsSpec)

/-- ITS FALSE NEIGHBOUR: 'it returns false'. Refute it at one input. -/
def linearCutsWrong : ChangeSpec := { name := "linearCuts", fn := fun _ => fun
  | [d1, d2, d3] => { results := [.lit (.bool false)], args := [d1, d2, d3] }
  | _ => none }
def LinearCutsWrongFalsely : Prop := linearCutsRow.holds Try.pinned (OpenSpec.ofChange linearCutsWrong)

/-- 'hawserlaw26.LinearCalls': WHATEVER THE INPUT: true; the input reads as it did. -/
def linearCallsSpec : ChangeSpec := { name := "linearCalls", fn := fun _ => fun
  | [d] => { results := [.lit (.bool true)], args := [d] }
  | _ => none }
def linearCallsRow : OpenClaim := { program := "ytbakmkoppieelaa", sum := "20883bcb92a1bd554abf2f73d1deeafeaafe003967c3bba4010cbb788e2b7c3e", func := "hawser/hawserlaw26.LinearCalls", spec := "linearCalls", unfollowed := true, recurses := true, leaving := true, apart := false }
def LinearCallsSaid : Prop := linearCallsRow.holds Try.pinned (OpenSpec.ofChange linearCallsSpec)

/-- ITS FALSE NEIGHBOUR: 'it returns false'. Refute it at one input. -/
def linearCallsWrong : ChangeSpec := { name := "linearCalls", fn := fun _ => fun
  | [d] => { results := [.lit (.bool false)], args := [d] }
  | _ => none }
def LinearCallsWrongFalsely : Prop := linearCallsRow.holds Try.pinned (OpenSpec.ofChange linearCallsWrong)

/-- 'hawserlaw26.LinearOrders': WHATEVER THE INPUT: true; the input reads as it did. -/
def linearOrdersSpec : ChangeSpec := { name := "linearOrders", fn := fun _ => fun
  | [d1, d2] => { results := [.lit (.bool true)], args := [d1, d2] }
  | _ => none }
def linearOrdersRow : OpenClaim := { program := "ytbakmkoppieelaa", sum := "20883bcb92a1bd554abf2f73d1deeafeaafe003967c3bba4010cbb788e2b7c3e", func := "hawser/hawserlaw26.LinearOrders", spec := "linearOrders", apart := false }
def LinearOrdersSaid : Prop := linearOrdersRow.holds Try.pinned (OpenSpec.ofChange linearOrdersSpec)

/-- ITS FALSE NEIGHBOUR: 'it returns false'. Refute it at one input. -/
def linearOrdersWrong : ChangeSpec := { name := "linearOrders", fn := fun _ => fun
  | [d1, d2] => { results := [.lit (.bool false)], args := [d1, d2] }
  | _ => none }
def LinearOrdersWrongFalsely : Prop := linearOrdersRow.holds Try.pinned (OpenSpec.ofChange linearOrdersWrong)

/-- 'hawserlaw26.LinearNames': WHATEVER THE INPUT: true; the input reads as it did. -/
def linearNamesSpec : ChangeSpec := { name := "linearNames", fn := fun _ => fun
  | [] => { results := [.lit (.bool true)], args := [] }
  | _ => none }
def linearNamesRow : OpenClaim := { program := "ytbakmkoppieelaa", sum := "20883bcb92a1bd554abf2f73d1deeafeaafe003967c3bba4010cbb788e2b7c3e", func := "hawser/hawserlaw26.LinearNames", spec := "linearNames", recurses := true, apart := false }
def LinearNamesSaid : Prop := linearNamesRow.holds Try.pinned (OpenSpec.ofChange linearNamesSpec)

/-- ITS FALSE NEIGHBOUR: 'it returns false'. Refute it at one input. -/
def linearNamesWrong : ChangeSpec := { name := "linearNames", fn := fun _ => fun
  | [] => { results := [.lit (.bool false)], args := [] }
  | _ => none }
def LinearNamesWrongFalsely : Prop := linearNamesRow.holds Try.pinned (OpenSpec.ofChange linearNamesWrong)

/-- 'hawserlaw26.LinearSearches': WHATEVER THE INPUT: true; the input reads as it did. -/
def linearSearchesSpec : ChangeSpec := { name := "linearSearches", fn := fun _ => fun
  | [d] => { results := [.lit (.bool true)], args := [d] }
  | _ => none }
def linearSearchesRow : OpenClaim := { program := "ytbakmkoppieelaa", sum := "20883bcb92a1bd554abf2f73d1deeafeaafe003967c3bba4010cbb788e2b7c3e", func := "hawser/hawserlaw26.LinearSearches", spec := "linearSearches", recurses := true, apart := false }
def LinearSearchesSaid : Prop := linearSearchesRow.holds Try.pinned (OpenSpec.ofChange linearSearchesSpec)

/-- ITS FALSE NEIGHBOUR: 'it returns false'. Refute it at one input. -/
def linearSearchesWrong : ChangeSpec := { name := "linearSearches", fn := fun _ => fun
  | [d] => { results := [.lit (.bool false)], args := [d] }
  | _ => none }
def LinearSearchesWrongFalsely : Prop := linearSearchesRow.holds Try.pinned (OpenSpec.ofChange linearSearchesWrong)

/-- 'hawserlaw26.LinearSoFar': WHATEVER THE INPUT: true; the input reads as it did. -/
def linearSoFarSpec : ChangeSpec := { name := "linearSoFar", fn := fun _ => fun
  | [d1, d2] => { results := [.lit (.bool true)], args := [d1, d2] }
  | _ => none }
def linearSoFarRow : OpenClaim := { program := "ytbakmkoppieelaa", sum := "20883bcb92a1bd554abf2f73d1deeafeaafe003967c3bba4010cbb788e2b7c3e", func := "hawser/hawserlaw26.LinearSoFar", spec := "linearSoFar", recurses := true, apart := false }
def LinearSoFarSaid : Prop := linearSoFarRow.holds Try.pinned (OpenSpec.ofChange linearSoFarSpec)

/-- ITS FALSE NEIGHBOUR: 'it returns false'. Refute it at one input. -/
def linearSoFarWrong : ChangeSpec := { name := "linearSoFar", fn := fun _ => fun
  | [d1, d2] => { results := [.lit (.bool false)], args := [d1, d2] }
  | _ => none }
def LinearSoFarWrongFalsely : Prop := linearSoFarRow.holds Try.pinned (OpenSpec.ofChange linearSoFarWrong)

/-- 'hawserlaw26.LinearHolds': WHATEVER THE INPUT: true; the input reads as it did. -/
def linearHoldsSpec : ChangeSpec := { name := "linearHolds", fn := fun _ => fun
  | [d1, d2] => { results := [.lit (.bool true)], args := [d1, d2] }
  | _ => none }
def linearHoldsRow : OpenClaim := { program := "ytbakmkoppieelaa", sum := "20883bcb92a1bd554abf2f73d1deeafeaafe003967c3bba4010cbb788e2b7c3e", func := "hawser/hawserlaw26.LinearHolds", spec := "linearHolds", recurses := true, apart := false }
def LinearHoldsSaid : Prop := linearHoldsRow.holds Try.pinned (OpenSpec.ofChange linearHoldsSpec)

/-- ITS FALSE NEIGHBOUR: 'it returns false'. Refute it at one input. -/
def linearHoldsWrong : ChangeSpec := { name := "linearHolds", fn := fun _ => fun
  | [d1, d2] => { results := [.lit (.bool false)], args := [d1, d2] }
  | _ => none }
def LinearHoldsWrongFalsely : Prop := linearHoldsRow.holds Try.pinned (OpenSpec.ofChange linearHoldsWrong)

/-- 'hawserlaw26.LinearFinds': WHATEVER THE INPUT: true; the input reads as it did. -/
def linearFindsSpec : ChangeSpec := { name := "linearFinds", fn := fun _ => fun
  | [d1, d2] => { results := [.lit (.bool true)], args := [d1, d2] }
  | _ => none }
def linearFindsRow : OpenClaim := { program := "ytbakmkoppieelaa", sum := "20883bcb92a1bd554abf2f73d1deeafeaafe003967c3bba4010cbb788e2b7c3e", func := "hawser/hawserlaw26.LinearFinds", spec := "linearFinds", recurses := true, apart := false }
def LinearFindsSaid : Prop := linearFindsRow.holds Try.pinned (OpenSpec.ofChange linearFindsSpec)

/-- ITS FALSE NEIGHBOUR: 'it returns false'. Refute it at one input. -/
def linearFindsWrong : ChangeSpec := { name := "linearFinds", fn := fun _ => fun
  | [d1, d2] => { results := [.lit (.bool false)], args := [d1, d2] }
  | _ => none }
def LinearFindsWrongFalsely : Prop := linearFindsRow.holds Try.pinned (OpenSpec.ofChange linearFindsWrong)

/-- 'hawserlaw26.LinearOwn': WHATEVER THE INPUT: true; the input reads as it did. -/
def linearOwnSpec : ChangeSpec := { name := "linearOwn", fn := fun _ => fun
  | [d] => { results := [.lit (.bool true)], args := [d] }
  | _ => none }
def linearOwnRow : OpenClaim := { program := "ytbakmkoppieelaa", sum := "20883bcb92a1bd554abf2f73d1deeafeaafe003967c3bba4010cbb788e2b7c3e", func := "hawser/hawserlaw26.LinearOwn", spec := "linearOwn", inPlace := ["internal/reflectlite.ValueOf", "internal/reflectlite.Swapper", "(internal/reflectlite.Value).Len"], unfollowed := true, recurses := true, leaving := true, apart := false }
def LinearOwnSaid : Prop := linearOwnRow.holds Try.pinned (OpenSpec.ofChange linearOwnSpec)

/-- ITS FALSE NEIGHBOUR: 'it returns false'. Refute it at one input. -/
def linearOwnWrong : ChangeSpec := { name := "linearOwn", fn := fun _ => fun
  | [d] => { results := [.lit (.bool false)], args := [d] }
  | _ => none }
def LinearOwnWrongFalsely : Prop := linearOwnRow.holds Try.pinned (OpenSpec.ofChange linearOwnWrong)

/-- 'hawserlaw26.LinearLocal': WHATEVER THE INPUT: true; the input reads as it did. -/
def linearLocalSpec : ChangeSpec := { name := "linearLocal", fn := fun _ => fun
  | [d] => { results := [.lit (.bool true)], args := [d] }
  | _ => none }
def linearLocalRow : OpenClaim := { program := "ytbakmkoppieelaa", sum := "20883bcb92a1bd554abf2f73d1deeafeaafe003967c3bba4010cbb788e2b7c3e", func := "hawser/hawserlaw26.LinearLocal", spec := "linearLocal", inPlace := ["(*sync.WaitGroup).Add", "internal/race.ReleaseMerge", "internal/race.Disable", "internal/race.Enable", "internal/synctest.IsInBubble", "internal/synctest.Associate[sync.WaitGroup]", "sync.fatal", "sync/atomic.OrUint64", "sync/atomic.AddUint64", "internal/race.Read", "sync/atomic.LoadUint64", "sync/atomic.StoreUint64", "internal/synctest.Disassociate[sync.WaitGroup]", "sync.runtime_Semrelease", "(*sync.WaitGroup).Done", "(*sync.WaitGroup).Wait", "internal/race.Acquire", "internal/synctest.IsAssociated[sync.WaitGroup]", "sync/atomic.CompareAndSwapUint64", "internal/race.Write", "sync.runtime_SemacquireWaitGroup"], unfollowed := true, recurses := true, leaving := true, apart := false }
def LinearLocalSaid : Prop := linearLocalRow.holds Try.pinned (OpenSpec.ofChange linearLocalSpec)

/-- ITS FALSE NEIGHBOUR: 'it returns false'. Refute it at one input. -/
def linearLocalWrong : ChangeSpec := { name := "linearLocal", fn := fun _ => fun
  | [d] => { results := [.lit (.bool false)], args := [d] }
  | _ => none }
def LinearLocalWrongFalsely : Prop := linearLocalRow.holds Try.pinned (OpenSpec.ofChange linearLocalWrong)

/- THE SECOND FORM. 'bulk': how many values and letters a reading holds, each counted each time it is reached (what is shared counts as often as it is met; a slice's spare places count too). A statement '..UptoSaid' is the law's where the arguments, and the package variables that the reading takes, are together of bulk at most 1048576: NARROWER than '..Said'. Prove '..Said' where nothing that the law and all that it calls make is longer than what came in: it says more and counts as full. Else prove '..UptoSaid'. A law counts once. -/
mutual
def uptoBulk {H : Type} : DataW H → Nat
  | .lit (.string bytes) => bytes.length + 1
  | .lit _ => 1
  | .nil => 1
  | .ptr d => uptoBulk d + 1
  | .slice elems spare => uptoBulkAll elems + uptoBulkAll spare + 1
  | .agg parts => uptoBulkAll parts + 1
  | .iface _ d => uptoBulk d + 1
  | .map entries => uptoBulkEntries entries + 1
  | .held _ => 1
def uptoBulkAll {H : Type} : List (DataW H) → Nat
  | [] => 0
  | d :: r => uptoBulk d + uptoBulkAll r
def uptoBulkEntries {H : Type} : List (Lit × DataW H) → Nat
  | [] => 0
  | x :: r => uptoBulkEntry x + uptoBulkEntries r
def uptoBulkEntry {H : Type} : Lit × DataW H → Nat
  | (.string bytes, d) => bytes.length + uptoBulk d + 1
  | (_, d) => uptoBulk d + 1
 end
def uptoSmall : (H : Type) → List (DataW H) → Bool := fun _ ds => decide (uptoBulkAll ds ≤ 1048576)
def OpenSpec.upto (s : _root_.Go.ChangeSpec) : _root_.Go.OpenSpec := { _root_.Go.OpenSpec.ofChange s with cond := some uptoSmall }

/-- 'hawserlaw26.LinearChecks', WHERE WHAT IT READS IS OF BULK AT MOST 1048576: true; the input reads as it did. -/
def linearChecksUptoRow : OpenClaim := { program := "ytbakmkoppieelaa", sum := "20883bcb92a1bd554abf2f73d1deeafeaafe003967c3bba4010cbb788e2b7c3e", func := "hawser/hawserlaw26.LinearChecks", spec := "linearChecks", apart := false, narrowed := true }
def LinearChecksUptoSaid : Prop := linearChecksUptoRow.holds Try.pinned (OpenSpec.upto linearChecksSpec)

/-- 'hawserlaw26.LinearCuts', WHERE WHAT IT READS IS OF BULK AT MOST 1048576: true; the input reads as it did. -/
def linearCutsUptoRow : OpenClaim := { program := "ytbakmkoppieelaa", sum := "20883bcb92a1bd554abf2f73d1deeafeaafe003967c3bba4010cbb788e2b7c3e", func := "hawser/hawserlaw26.LinearCuts", spec := "linearCuts", apart := false, narrowed := true }
def LinearCutsUptoSaid : Prop := linearCutsUptoRow.holds Try.pinned (OpenSpec.upto linearCutsSpec)

/-- 'hawserlaw26.LinearCalls', WHERE WHAT IT READS IS OF BULK AT MOST 1048576: true; the input reads as it did. -/
def linearCallsUptoRow : OpenClaim := { program := "ytbakmkoppieelaa", sum := "20883bcb92a1bd554abf2f73d1deeafeaafe003967c3bba4010cbb788e2b7c3e", func := "hawser/hawserlaw26.LinearCalls", spec := "linearCalls", unfollowed := true, recurses := true, leaving := true, apart := false, narrowed := true }
def LinearCallsUptoSaid : Prop := linearCallsUptoRow.holds Try.pinned (OpenSpec.upto linearCallsSpec)

/-- 'hawserlaw26.LinearOrders', WHERE WHAT IT READS IS OF BULK AT MOST 1048576: true; the input reads as it did. -/
def linearOrdersUptoRow : OpenClaim := { program := "ytbakmkoppieelaa", sum := "20883bcb92a1bd554abf2f73d1deeafeaafe003967c3bba4010cbb788e2b7c3e", func := "hawser/hawserlaw26.LinearOrders", spec := "linearOrders", apart := false, narrowed := true }
def LinearOrdersUptoSaid : Prop := linearOrdersUptoRow.holds Try.pinned (OpenSpec.upto linearOrdersSpec)

/-- 'hawserlaw26.LinearNames', WHERE WHAT IT READS IS OF BULK AT MOST 1048576: true; the input reads as it did. -/
def linearNamesUptoRow : OpenClaim := { program := "ytbakmkoppieelaa", sum := "20883bcb92a1bd554abf2f73d1deeafeaafe003967c3bba4010cbb788e2b7c3e", func := "hawser/hawserlaw26.LinearNames", spec := "linearNames", recurses := true, apart := false, narrowed := true }
def LinearNamesUptoSaid : Prop := linearNamesUptoRow.holds Try.pinned (OpenSpec.upto linearNamesSpec)

/-- 'hawserlaw26.LinearSearches', WHERE WHAT IT READS IS OF BULK AT MOST 1048576: true; the input reads as it did. -/
def linearSearchesUptoRow : OpenClaim := { program := "ytbakmkoppieelaa", sum := "20883bcb92a1bd554abf2f73d1deeafeaafe003967c3bba4010cbb788e2b7c3e", func := "hawser/hawserlaw26.LinearSearches", spec := "linearSearches", recurses := true, apart := false, narrowed := true }
def LinearSearchesUptoSaid : Prop := linearSearchesUptoRow.holds Try.pinned (OpenSpec.upto linearSearchesSpec)

/-- 'hawserlaw26.LinearSoFar', WHERE WHAT IT READS IS OF BULK AT MOST 1048576: true; the input reads as it did. -/
def linearSoFarUptoRow : OpenClaim := { program := "ytbakmkoppieelaa", sum := "20883bcb92a1bd554abf2f73d1deeafeaafe003967c3bba4010cbb788e2b7c3e", func := "hawser/hawserlaw26.LinearSoFar", spec := "linearSoFar", recurses := true, apart := false, narrowed := true }
def LinearSoFarUptoSaid : Prop := linearSoFarUptoRow.holds Try.pinned (OpenSpec.upto linearSoFarSpec)

/-- 'hawserlaw26.LinearHolds', WHERE WHAT IT READS IS OF BULK AT MOST 1048576: true; the input reads as it did. -/
def linearHoldsUptoRow : OpenClaim := { program := "ytbakmkoppieelaa", sum := "20883bcb92a1bd554abf2f73d1deeafeaafe003967c3bba4010cbb788e2b7c3e", func := "hawser/hawserlaw26.LinearHolds", spec := "linearHolds", recurses := true, apart := false, narrowed := true }
def LinearHoldsUptoSaid : Prop := linearHoldsUptoRow.holds Try.pinned (OpenSpec.upto linearHoldsSpec)

/-- 'hawserlaw26.LinearFinds', WHERE WHAT IT READS IS OF BULK AT MOST 1048576: true; the input reads as it did. -/
def linearFindsUptoRow : OpenClaim := { program := "ytbakmkoppieelaa", sum := "20883bcb92a1bd554abf2f73d1deeafeaafe003967c3bba4010cbb788e2b7c3e", func := "hawser/hawserlaw26.LinearFinds", spec := "linearFinds", recurses := true, apart := false, narrowed := true }
def LinearFindsUptoSaid : Prop := linearFindsUptoRow.holds Try.pinned (OpenSpec.upto linearFindsSpec)

/-- 'hawserlaw26.LinearOwn', WHERE WHAT IT READS IS OF BULK AT MOST 1048576: true; the input reads as it did. -/
def linearOwnUptoRow : OpenClaim := { program := "ytbakmkoppieelaa", sum := "20883bcb92a1bd554abf2f73d1deeafeaafe003967c3bba4010cbb788e2b7c3e", func := "hawser/hawserlaw26.LinearOwn", spec := "linearOwn", inPlace := ["internal/reflectlite.ValueOf", "internal/reflectlite.Swapper", "(internal/reflectlite.Value).Len"], unfollowed := true, recurses := true, leaving := true, apart := false, narrowed := true }
def LinearOwnUptoSaid : Prop := linearOwnUptoRow.holds Try.pinned (OpenSpec.upto linearOwnSpec)

/-- 'hawserlaw26.LinearLocal', WHERE WHAT IT READS IS OF BULK AT MOST 1048576: true; the input reads as it did. -/
def linearLocalUptoRow : OpenClaim := { program := "ytbakmkoppieelaa", sum := "20883bcb92a1bd554abf2f73d1deeafeaafe003967c3bba4010cbb788e2b7c3e", func := "hawser/hawserlaw26.LinearLocal", spec := "linearLocal", inPlace := ["(*sync.WaitGroup).Add", "internal/race.ReleaseMerge", "internal/race.Disable", "internal/race.Enable", "internal/synctest.IsInBubble", "internal/synctest.Associate[sync.WaitGroup]", "sync.fatal", "sync/atomic.OrUint64", "sync/atomic.AddUint64", "internal/race.Read", "sync/atomic.LoadUint64", "sync/atomic.StoreUint64", "internal/synctest.Disassociate[sync.WaitGroup]", "sync.runtime_Semrelease", "(*sync.WaitGroup).Done", "(*sync.WaitGroup).Wait", "internal/race.Acquire", "internal/synctest.IsAssociated[sync.WaitGroup]", "sync/atomic.CompareAndSwapUint64", "internal/race.Write", "sync.runtime_SemacquireWaitGroup"], unfollowed := true, recurses := true, leaving := true, apart := false, narrowed := true }
def LinearLocalUptoSaid : Prop := linearLocalUptoRow.holds Try.pinned (OpenSpec.upto linearLocalSpec)

end Rows
end Go.Proofs.Ytbakmkoppieelaa

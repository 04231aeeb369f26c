/-
  No cell of these rows narrows 'for every input' (looked for: loops, veiled, ifaces, maps, wideKeys, modest, calm, conditions, laid).
  DERIVED. THE GIVEN ROWS OF THIS SEAT. 3 by the template 'for every input the law returns true; each argument reads behind the call as it read before'; 0 by the template 'total and deterministic' (their statements: YtcjhephlhgpfkaaTotals.lean).
  GIVEN WITH THE SEED: the statements are not yours to turn. If you find one false, say at which input.
  Laid BY PROGRAM, IN A SANDBOX (cutbox-rows.mjs): the forced cells as the released guide's own fill.sh prints them over the translation 529013377dfaf23b… (all of the seat's roots in one cut). By AI agents, Wed Nov 11 2026. No macro, syntax, notation, axiom, sorry.
-/
import Derived.Test.YtcjhephlhgpfkaaChecked
import GoSem.Claim
import GoSem.ClaimJoined
import GoSem.ClaimMapViews
import Derived.JoinedTies
import Derived.KernelRfl
namespace Go.Proofs.Ytcjhephlhgpfkaa
/- THE CELL 'sum', in the pinned program and in every row, IS THE sha256 OF THE DUMP (.gsa) THAT YtcjhephlhgpfkaaProg.lean LOADS. Nothing in Lean hashes anything: it is a label: what it is worth is what the hold of that sum in a sandbox is worth. -/
noncomputable def Try.pinned : Pinned := { name := "ytcjhephlhgpfkaa", sum := "529013377dfaf23b3f6b996725b4511a1e8f20ab0321dc772fac31b15f84eb29", checked := Try.checked }
namespace Rows
def none {H : Type} : Left H := { results := [], args := [] }

/-- 'hawserlaw10.MerkleNodes': WHATEVER THE INPUT: true; the input reads as it did. -/
def merkleNodesSpec : ChangeSpec := { name := "merkleNodes", fn := fun _ => fun
  | [d] => { results := [.lit (.bool true)], args := [d] }
  | _ => none }
def merkleNodesRow : OpenClaim := { program := "ytcjhephlhgpfkaa", sum := "529013377dfaf23b3f6b996725b4511a1e8f20ab0321dc772fac31b15f84eb29", func := "hawser/hawserlaw10.MerkleNodes", spec := "merkleNodes", apart := false }
def MerkleNodesSaid : Prop := merkleNodesRow.holds Try.pinned (OpenSpec.ofChange merkleNodesSpec)

/-- ITS FALSE NEIGHBOUR: 'it returns false'. Refute it at one input. -/
def merkleNodesWrong : ChangeSpec := { name := "merkleNodes", fn := fun _ => fun
  | [d] => { results := [.lit (.bool false)], args := [d] }
  | _ => none }
def MerkleNodesWrongFalsely : Prop := merkleNodesRow.holds Try.pinned (OpenSpec.ofChange merkleNodesWrong)

/-- 'hawserlaw10.MerkleNames': WHATEVER THE INPUT: true; the input reads as it did. -/
def merkleNamesSpec : ChangeSpec := { name := "merkleNames", fn := fun _ => fun
  | [] => { results := [.lit (.bool true)], args := [] }
  | _ => none }
def merkleNamesRow : OpenClaim := { program := "ytcjhephlhgpfkaa", sum := "529013377dfaf23b3f6b996725b4511a1e8f20ab0321dc772fac31b15f84eb29", func := "hawser/hawserlaw10.MerkleNames", spec := "merkleNames", apart := false }
def MerkleNamesSaid : Prop := merkleNamesRow.holds Try.pinned (OpenSpec.ofChange merkleNamesSpec)

/-- ITS FALSE NEIGHBOUR: 'it returns false'. Refute it at one input. -/
def merkleNamesWrong : ChangeSpec := { name := "merkleNames", fn := fun _ => fun
  | [] => { results := [.lit (.bool false)], args := [] }
  | _ => none }
def MerkleNamesWrongFalsely : Prop := merkleNamesRow.holds Try.pinned (OpenSpec.ofChange merkleNamesWrong)

/-- 'hawserlaw10.MerkleLeaves': WHATEVER THE INPUT: true; the input reads as it did. -/
def merkleLeavesSpec : ChangeSpec := { name := "merkleLeaves", fn := fun _ => fun
  | [d] => { results := [.lit (.bool true)], args := [d] }
  | _ => none }
def merkleLeavesRow : OpenClaim := { program := "ytcjhephlhgpfkaa", sum := "529013377dfaf23b3f6b996725b4511a1e8f20ab0321dc772fac31b15f84eb29", func := "hawser/hawserlaw10.MerkleLeaves", spec := "merkleLeaves", apart := false }
def MerkleLeavesSaid : Prop := merkleLeavesRow.holds Try.pinned (OpenSpec.ofChange merkleLeavesSpec)

/-- ITS FALSE NEIGHBOUR: 'it returns false'. Refute it at one input. -/
def merkleLeavesWrong : ChangeSpec := { name := "merkleLeaves", fn := fun _ => fun
  | [d] => { results := [.lit (.bool false)], args := [d] }
  | _ => none }
def MerkleLeavesWrongFalsely : Prop := merkleLeavesRow.holds Try.pinned (OpenSpec.ofChange merkleLeavesWrong)

/- THE SECOND FORM. 'bulk': how many values and letters a reading holds, each counted each time it is reached (what is shared counts as often as it is met; a slice's spare places count too). A statement '..UptoSaid' is the law's where the arguments, and the package variables that the reading takes, are together of bulk at most 1048576: NARROWER than '..Said'. Prove '..Said' where nothing that the law and all that it calls make is longer than what came in: it says more and counts as full. Else prove '..UptoSaid'. A law counts once. -/
mutual
def uptoBulk {H : Type} : DataW H → Nat
  | .lit (.string bytes) => bytes.length + 1
  | .lit _ => 1
  | .nil => 1
  | .ptr d => uptoBulk d + 1
  | .slice elems spare => uptoBulkAll elems + uptoBulkAll spare + 1
  | .agg parts => uptoBulkAll parts + 1
  | .iface _ d => uptoBulk d + 1
  | .map entries => uptoBulkEntries entries + 1
  | .held _ => 1
def uptoBulkAll {H : Type} : List (DataW H) → Nat
  | [] => 0
  | d :: r => uptoBulk d + uptoBulkAll r
def uptoBulkEntries {H : Type} : List (Lit × DataW H) → Nat
  | [] => 0
  | x :: r => uptoBulkEntry x + uptoBulkEntries r
def uptoBulkEntry {H : Type} : Lit × DataW H → Nat
  | (.string bytes, d) => bytes.length + uptoBulk d + 1
  | (_, d) => uptoBulk d + 1
 end
def uptoSmall : (H : Type) → List (DataW H) → Bool := fun _ ds => decide (uptoBulkAll ds ≤ 1048576)
def OpenSpec.upto (s : _root_.Go.ChangeSpec) : _root_.Go.OpenSpec := { _root_.Go.OpenSpec.ofChange s with cond := some uptoSmall }

/-- 'hawserlaw10.MerkleNodes', WHERE WHAT IT READS IS OF BULK AT MOST 1048576: true; the input reads as it did. -/
def merkleNodesUptoRow : OpenClaim := { program := "ytcjhephlhgpfkaa", sum := "529013377dfaf23b3f6b996725b4511a1e8f20ab0321dc772fac31b15f84eb29", func := "hawser/hawserlaw10.MerkleNodes", spec := "merkleNodes", apart := false, narrowed := true }
def MerkleNodesUptoSaid : Prop := merkleNodesUptoRow.holds Try.pinned (OpenSpec.upto merkleNodesSpec)

/-- 'hawserlaw10.MerkleNames', WHERE WHAT IT READS IS OF BULK AT MOST 1048576: true; the input reads as it did. -/
def merkleNamesUptoRow : OpenClaim := { program := "ytcjhephlhgpfkaa", sum := "529013377dfaf23b3f6b996725b4511a1e8f20ab0321dc772fac31b15f84eb29", func := "hawser/hawserlaw10.MerkleNames", spec := "merkleNames", apart := false, narrowed := true }
def MerkleNamesUptoSaid : Prop := merkleNamesUptoRow.holds Try.pinned (OpenSpec.upto merkleNamesSpec)

/-- 'hawserlaw10.MerkleLeaves', WHERE WHAT IT READS IS OF BULK AT MOST 1048576: true; the input reads as it did. -/
def merkleLeavesUptoRow : OpenClaim := { program := "ytcjhephlhgpfkaa", sum := "529013377dfaf23b3f6b996725b4511a1e8f20ab0321dc772fac31b15f84eb29", func := "hawser/hawserlaw10.MerkleLeaves", spec := "merkleLeaves", apart := false, narrowed := true }
def MerkleLeavesUptoSaid : Prop := merkleLeavesUptoRow.holds Try.pinned (OpenSpec.upto merkleLeavesSpec)

end Rows
end Go.Proofs.Ytcjhephlhgpfkaa

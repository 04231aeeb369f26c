/-
  NARROWER THAN 'FOR EVERY INPUT', by the rows' own cells (each row's printed sentence says how): SpanBuckets: laid · SpanHome: laid · SpanNormals: laid · MerkleVerifies: laid · SpanRanges: laid.
  DERIVED. THE GIVEN ROWS OF THIS SEAT. 5 by the template 'for every input the law returns true; each argument reads behind the call as it read before'; 0 by the template 'total and deterministic' (their statements: YtijlanhhelichaaDoorTotals.lean).
  GIVEN WITH THE SEED: the statements are not yours to turn. If you find one false, say at which input.
  Laid BY PROGRAM, IN A SANDBOX (cutbox-rows.mjs): the forced cells as the released guide's own fill.sh prints them over the translation 5121f3c0be43ae28… (all of the seat's roots in one cut). By AI agents, Wed Nov 11 2026. No macro, syntax, notation, axiom, sorry.
-/
import Derived.Test.YtijlanhhelichaaDoorChecked
import GoSem.PinnedTables
import GoSem.Claim
import GoSem.ClaimJoined
import GoSem.ClaimMapViews
import Derived.JoinedTies
import Derived.KernelRfl
namespace Go.Proofs.YtijlanhhelichaaDoor
/- THE CELL 'sum', in the pinned program and in every row, IS THE sha256 OF THE DUMP (.gsa) THAT YtijlanhhelichaaDoorProg.lean LOADS. Nothing in Lean hashes anything: it is a label: what it is worth is what the hold of that sum in a sandbox is worth. -/
noncomputable def Tryd.pinned : Pinned := { name := "ytijlanhhelichaadoor", sum := "5121f3c0be43ae28ecc302e6e8d8eed13d59f3d065fcea5eaa6dd40c05827420", checked := Tryd.checked }
namespace Rows
def none {H : Type} : Left H := { results := [], args := [] }

/- WHAT THE LISTED PACKAGE-LEVEL VARIABLES READ AS WHEN THE CALL BEGINS. Each datum BY PROGRAM (the guide's laid-datum.mjs) off the statement by which the dump's own 'gosem.cut.vars' lays the variable. In a bare row this is a premise. The card (YtijlanhhelichaaDoorCards.lean) ties it to the program's text. -/
def laid_unicode_utf8_acceptRanges {H : Type} : DataW H := .agg [.agg [.lit (.int .u8 128), .lit (.int .u8 191)], .agg [.lit (.int .u8 160), .lit (.int .u8 191)], .agg [.lit (.int .u8 128), .lit (.int .u8 159)], .agg [.lit (.int .u8 144), .lit (.int .u8 191)], .agg [.lit (.int .u8 128), .lit (.int .u8 143)], .agg [.lit (.int .u8 0), .lit (.int .u8 0)], .agg [.lit (.int .u8 0), .lit (.int .u8 0)], .agg [.lit (.int .u8 0), .lit (.int .u8 0)], .agg [.lit (.int .u8 0), .lit (.int .u8 0)], .agg [.lit (.int .u8 0), .lit (.int .u8 0)], .agg [.lit (.int .u8 0), .lit (.int .u8 0)], .agg [.lit (.int .u8 0), .lit (.int .u8 0)], .agg [.lit (.int .u8 0), .lit (.int .u8 0)], .agg [.lit (.int .u8 0), .lit (.int .u8 0)], .agg [.lit (.int .u8 0), .lit (.int .u8 0)], .agg [.lit (.int .u8 0), .lit (.int .u8 0)]]
/-- One of Go's own tables, pinned by name: the form's constant. -/
def laid_unicode_utf8_first : DataW Unit := Go.Pinned.utf8First
def laid_hawser_hawserlaw06_mark {H : Type} : DataW H := .agg [.lit (.string [109, 97, 114, 107]), .lit (.string [107, 114, 97, 109])]

/-- 'hawserlaw06.SpanBuckets': WHATEVER THE INPUT: true; the input reads as it did. -/
def spanBucketsSpec : ChangeSpec := { name := "spanBuckets", fn := fun _ => fun
  | [d1, d2, d3] => { results := [.lit (.bool true)], args := [d1, d2, d3] }
  | _ => none }
def spanBucketsRow : OpenClaim := { program := "ytijlanhhelichaadoor", sum := "5121f3c0be43ae28ecc302e6e8d8eed13d59f3d065fcea5eaa6dd40c05827420", func := "hawser/hawserlaw06.SpanBuckets", spec := "spanBuckets", inPlace := ["internal/bytealg.IndexByteString", "internal/bytealg.IndexString"], named := ["unicode/utf8.first", "unicode/utf8.acceptRanges", "internal/bytealg.MaxLen"], apart := false, laid := [("unicode/utf8.acceptRanges", laid_unicode_utf8_acceptRanges), ("unicode/utf8.first", laid_unicode_utf8_first)] }
def SpanBucketsSaid : Prop := spanBucketsRow.holds Tryd.pinned (OpenSpec.ofChange spanBucketsSpec)

/-- ITS FALSE NEIGHBOUR: 'it returns false'. Refute it at one input. -/
def spanBucketsWrong : ChangeSpec := { name := "spanBuckets", fn := fun _ => fun
  | [d1, d2, d3] => { results := [.lit (.bool false)], args := [d1, d2, d3] }
  | _ => none }
def SpanBucketsWrongFalsely : Prop := spanBucketsRow.holds Tryd.pinned (OpenSpec.ofChange spanBucketsWrong)

/-- 'hawserlaw06.SpanHome': WHATEVER THE INPUT: true; the input reads as it did. -/
def spanHomeSpec : ChangeSpec := { name := "spanHome", fn := fun _ => fun
  | [d1, d2] => { results := [.lit (.bool true)], args := [d1, d2] }
  | _ => none }
def spanHomeRow : OpenClaim := { program := "ytijlanhhelichaadoor", sum := "5121f3c0be43ae28ecc302e6e8d8eed13d59f3d065fcea5eaa6dd40c05827420", func := "hawser/hawserlaw06.SpanHome", spec := "spanHome", inPlace := ["internal/bytealg.abigen_runtime_cmpstring", "internal/bytealg.IndexByteString", "internal/bytealg.IndexString"], unfollowed := true, recurses := true, named := ["unicode/utf8.first", "unicode/utf8.acceptRanges", "internal/bytealg.MaxLen"], apart := false, laid := [("unicode/utf8.acceptRanges", laid_unicode_utf8_acceptRanges), ("unicode/utf8.first", laid_unicode_utf8_first)] }
def SpanHomeSaid : Prop := spanHomeRow.holds Tryd.pinned (OpenSpec.ofChange spanHomeSpec)

/-- ITS FALSE NEIGHBOUR: 'it returns false'. Refute it at one input. -/
def spanHomeWrong : ChangeSpec := { name := "spanHome", fn := fun _ => fun
  | [d1, d2] => { results := [.lit (.bool false)], args := [d1, d2] }
  | _ => none }
def SpanHomeWrongFalsely : Prop := spanHomeRow.holds Tryd.pinned (OpenSpec.ofChange spanHomeWrong)

/-- 'hawserlaw06.SpanNormals': WHATEVER THE INPUT: true; the input reads as it did. -/
def spanNormalsSpec : ChangeSpec := { name := "spanNormals", fn := fun _ => fun
  | [d] => { results := [.lit (.bool true)], args := [d] }
  | _ => none }
def spanNormalsRow : OpenClaim := { program := "ytijlanhhelichaadoor", sum := "5121f3c0be43ae28ecc302e6e8d8eed13d59f3d065fcea5eaa6dd40c05827420", func := "hawser/hawserlaw06.SpanNormals", spec := "spanNormals", inPlace := ["internal/bytealg.abigen_runtime_cmpstring"], unfollowed := true, recurses := true, named := ["hawser/hawserlaw06.mark"], apart := false, laid := [("hawser/hawserlaw06.mark", laid_hawser_hawserlaw06_mark)] }
def SpanNormalsSaid : Prop := spanNormalsRow.holds Tryd.pinned (OpenSpec.ofChange spanNormalsSpec)

/-- ITS FALSE NEIGHBOUR: 'it returns false'. Refute it at one input. -/
def spanNormalsWrong : ChangeSpec := { name := "spanNormals", fn := fun _ => fun
  | [d] => { results := [.lit (.bool false)], args := [d] }
  | _ => none }
def SpanNormalsWrongFalsely : Prop := spanNormalsRow.holds Tryd.pinned (OpenSpec.ofChange spanNormalsWrong)

/-- 'hawserlaw10.MerkleVerifies': WHATEVER THE INPUT: true; the input reads as it did. -/
def merkleVerifiesSpec : ChangeSpec := { name := "merkleVerifies", fn := fun _ => fun
  | [d] => { results := [.lit (.bool true)], args := [d] }
  | _ => none }
def merkleVerifiesRow : OpenClaim := { program := "ytijlanhhelichaadoor", sum := "5121f3c0be43ae28ecc302e6e8d8eed13d59f3d065fcea5eaa6dd40c05827420", func := "hawser/hawserlaw10.MerkleVerifies", spec := "merkleVerifies", inPlace := ["internal/bytealg.IndexByteString", "internal/bytealg.IndexString"], named := ["unicode/utf8.first", "unicode/utf8.acceptRanges", "internal/bytealg.MaxLen"], apart := false, laid := [("unicode/utf8.acceptRanges", laid_unicode_utf8_acceptRanges), ("unicode/utf8.first", laid_unicode_utf8_first)] }
def MerkleVerifiesSaid : Prop := merkleVerifiesRow.holds Tryd.pinned (OpenSpec.ofChange merkleVerifiesSpec)

/-- ITS FALSE NEIGHBOUR: 'it returns false'. Refute it at one input. -/
def merkleVerifiesWrong : ChangeSpec := { name := "merkleVerifies", fn := fun _ => fun
  | [d] => { results := [.lit (.bool false)], args := [d] }
  | _ => none }
def MerkleVerifiesWrongFalsely : Prop := merkleVerifiesRow.holds Tryd.pinned (OpenSpec.ofChange merkleVerifiesWrong)

/-- 'hawserlaw06.SpanRanges': WHATEVER THE INPUT: true; the input reads as it did. -/
def spanRangesSpec : ChangeSpec := { name := "spanRanges", fn := fun _ => fun
  | [d1, d2] => { results := [.lit (.bool true)], args := [d1, d2] }
  | _ => none }
def spanRangesRow : OpenClaim := { program := "ytijlanhhelichaadoor", sum := "5121f3c0be43ae28ecc302e6e8d8eed13d59f3d065fcea5eaa6dd40c05827420", func := "hawser/hawserlaw06.SpanRanges", spec := "spanRanges", inPlace := ["internal/bytealg.IndexByteString", "internal/bytealg.IndexString", "internal/bytealg.abigen_runtime_cmpstring"], unfollowed := true, recurses := true, named := ["unicode/utf8.first", "unicode/utf8.acceptRanges", "internal/bytealg.MaxLen"], apart := false, laid := [("unicode/utf8.acceptRanges", laid_unicode_utf8_acceptRanges), ("unicode/utf8.first", laid_unicode_utf8_first)] }
def SpanRangesSaid : Prop := spanRangesRow.holds Tryd.pinned (OpenSpec.ofChange spanRangesSpec)

/-- ITS FALSE NEIGHBOUR: 'it returns false'. Refute it at one input. -/
def spanRangesWrong : ChangeSpec := { name := "spanRanges", fn := fun _ => fun
  | [d1, d2] => { results := [.lit (.bool false)], args := [d1, d2] }
  | _ => none }
def SpanRangesWrongFalsely : Prop := spanRangesRow.holds Tryd.pinned (OpenSpec.ofChange spanRangesWrong)

/- THE SECOND FORM. 'bulk': how many values and letters a reading holds, each counted each time it is reached (what is shared counts as often as it is met; a slice's spare places count too). A statement '..UptoSaid' is the law's where the arguments, and the package variables that the reading takes, are together of bulk at most 1048576: NARROWER than '..Said'. Prove '..Said' where nothing that the law and all that it calls make is longer than what came in: it says more and counts as full. Else prove '..UptoSaid'. A law counts once. -/
mutual
def uptoBulk {H : Type} : DataW H → Nat
  | .lit (.string bytes) => bytes.length + 1
  | .lit _ => 1
  | .nil => 1
  | .ptr d => uptoBulk d + 1
  | .slice elems spare => uptoBulkAll elems + uptoBulkAll spare + 1
  | .agg parts => uptoBulkAll parts + 1
  | .iface _ d => uptoBulk d + 1
  | .map entries => uptoBulkEntries entries + 1
  | .held _ => 1
def uptoBulkAll {H : Type} : List (DataW H) → Nat
  | [] => 0
  | d :: r => uptoBulk d + uptoBulkAll r
def uptoBulkEntries {H : Type} : List (Lit × DataW H) → Nat
  | [] => 0
  | x :: r => uptoBulkEntry x + uptoBulkEntries r
def uptoBulkEntry {H : Type} : Lit × DataW H → Nat
  | (.string bytes, d) => bytes.length + uptoBulk d + 1
  | (_, d) => uptoBulk d + 1
 end
def uptoSmall : (H : Type) → List (DataW H) → Bool := fun _ ds => decide (uptoBulkAll ds ≤ 1048576)
def OpenSpec.upto (s : _root_.Go.ChangeSpec) : _root_.Go.OpenSpec := { _root_.Go.OpenSpec.ofChange s with cond := some uptoSmall }

/-- 'hawserlaw06.SpanBuckets', WHERE WHAT IT READS IS OF BULK AT MOST 1048576: true; the input reads as it did. -/
def spanBucketsUptoRow : OpenClaim := { program := "ytijlanhhelichaadoor", sum := "5121f3c0be43ae28ecc302e6e8d8eed13d59f3d065fcea5eaa6dd40c05827420", func := "hawser/hawserlaw06.SpanBuckets", spec := "spanBuckets", inPlace := ["internal/bytealg.IndexByteString", "internal/bytealg.IndexString"], named := ["unicode/utf8.first", "unicode/utf8.acceptRanges", "internal/bytealg.MaxLen"], apart := false, laid := [("unicode/utf8.acceptRanges", laid_unicode_utf8_acceptRanges), ("unicode/utf8.first", laid_unicode_utf8_first)], narrowed := true }
def SpanBucketsUptoSaid : Prop := spanBucketsUptoRow.holds Tryd.pinned (OpenSpec.upto spanBucketsSpec)

/-- 'hawserlaw06.SpanHome', WHERE WHAT IT READS IS OF BULK AT MOST 1048576: true; the input reads as it did. -/
def spanHomeUptoRow : OpenClaim := { program := "ytijlanhhelichaadoor", sum := "5121f3c0be43ae28ecc302e6e8d8eed13d59f3d065fcea5eaa6dd40c05827420", func := "hawser/hawserlaw06.SpanHome", spec := "spanHome", inPlace := ["internal/bytealg.abigen_runtime_cmpstring", "internal/bytealg.IndexByteString", "internal/bytealg.IndexString"], unfollowed := true, recurses := true, named := ["unicode/utf8.first", "unicode/utf8.acceptRanges", "internal/bytealg.MaxLen"], apart := false, laid := [("unicode/utf8.acceptRanges", laid_unicode_utf8_acceptRanges), ("unicode/utf8.first", laid_unicode_utf8_first)], narrowed := true }
def SpanHomeUptoSaid : Prop := spanHomeUptoRow.holds Tryd.pinned (OpenSpec.upto spanHomeSpec)

/-- 'hawserlaw06.SpanNormals', WHERE WHAT IT READS IS OF BULK AT MOST 1048576: true; the input reads as it did. -/
def spanNormalsUptoRow : OpenClaim := { program := "ytijlanhhelichaadoor", sum := "5121f3c0be43ae28ecc302e6e8d8eed13d59f3d065fcea5eaa6dd40c05827420", func := "hawser/hawserlaw06.SpanNormals", spec := "spanNormals", inPlace := ["internal/bytealg.abigen_runtime_cmpstring"], unfollowed := true, recurses := true, named := ["hawser/hawserlaw06.mark"], apart := false, laid := [("hawser/hawserlaw06.mark", laid_hawser_hawserlaw06_mark)], narrowed := true }
def SpanNormalsUptoSaid : Prop := spanNormalsUptoRow.holds Tryd.pinned (OpenSpec.upto spanNormalsSpec)

/-- 'hawserlaw10.MerkleVerifies', WHERE WHAT IT READS IS OF BULK AT MOST 1048576: true; the input reads as it did. -/
def merkleVerifiesUptoRow : OpenClaim := { program := "ytijlanhhelichaadoor", sum := "5121f3c0be43ae28ecc302e6e8d8eed13d59f3d065fcea5eaa6dd40c05827420", func := "hawser/hawserlaw10.MerkleVerifies", spec := "merkleVerifies", inPlace := ["internal/bytealg.IndexByteString", "internal/bytealg.IndexString"], named := ["unicode/utf8.first", "unicode/utf8.acceptRanges", "internal/bytealg.MaxLen"], apart := false, laid := [("unicode/utf8.acceptRanges", laid_unicode_utf8_acceptRanges), ("unicode/utf8.first", laid_unicode_utf8_first)], narrowed := true }
def MerkleVerifiesUptoSaid : Prop := merkleVerifiesUptoRow.holds Tryd.pinned (OpenSpec.upto merkleVerifiesSpec)

/-- 'hawserlaw06.SpanRanges', WHERE WHAT IT READS IS OF BULK AT MOST 1048576: true; the input reads as it did. -/
def spanRangesUptoRow : OpenClaim := { program := "ytijlanhhelichaadoor", sum := "5121f3c0be43ae28ecc302e6e8d8eed13d59f3d065fcea5eaa6dd40c05827420", func := "hawser/hawserlaw06.SpanRanges", spec := "spanRanges", inPlace := ["internal/bytealg.IndexByteString", "internal/bytealg.IndexString", "internal/bytealg.abigen_runtime_cmpstring"], unfollowed := true, recurses := true, named := ["unicode/utf8.first", "unicode/utf8.acceptRanges", "internal/bytealg.MaxLen"], apart := false, laid := [("unicode/utf8.acceptRanges", laid_unicode_utf8_acceptRanges), ("unicode/utf8.first", laid_unicode_utf8_first)], narrowed := true }
def SpanRangesUptoSaid : Prop := spanRangesUptoRow.holds Tryd.pinned (OpenSpec.upto spanRangesSpec)

end Rows
end Go.Proofs.YtijlanhhelichaaDoor

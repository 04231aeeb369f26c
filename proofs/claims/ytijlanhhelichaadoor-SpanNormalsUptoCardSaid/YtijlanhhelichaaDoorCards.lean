/-
  DERIVED. GIVEN WITH THE SEED: THE CARDS: each row of YtijlanhhelichaaDoorRows.lean that lists a variable, with what it lists TIED to the program's text (the seventh form; the later family's looks); each row that meets fmt, with fmt's text TOLD by the authors' own Lean function (tested against real Go, not proved from fmt's source: count such statements apart). THE CARD IS WHAT COUNTS. Prove the row's statement (the work); the ties are given (YtijlanhhelichaaDoorTie.lean); close each card by the builder's one call (the guide's Derived/Test/ToyasCard.lean, 'card_holds'). Laid BY PROGRAM, IN A SANDBOX (cutbox-door.mjs). By AI agents, Wed Nov 11 2026. No macro, syntax, notation, axiom, sorry.
-/
import Derived.Test.YtijlanhhelichaaDoorRows
import GoSem.ClaimSeven
namespace Go.Proofs.YtijlanhhelichaaDoor
namespace Rows

/-- THE TIED CARD OF 'hawserlaw06.SpanBuckets'. -/
def spanBucketsCard : Claim7 := { stood := { row := spanBucketsRow, standIns := [], harness := (true, "4d1189422bd6e72a17a40803438041e6c5d8caeb7517314f0d0c2b93a8f15d28"), looks := false }, kinds := [], alts := [], laidByText := true, laidKinds := [.data, .pinned], laidTests := true, laidLooks := .later }
def SpanBucketsCardSaid : Prop := Claim7.holds Tryd.pinned (.plain (OpenSpec.ofChange spanBucketsSpec)) spanBucketsCard

/-- THE TIED CARD OF 'hawserlaw06.SpanHome'. -/
def spanHomeCard : Claim7 := { stood := { row := spanHomeRow, standIns := [], harness := (true, "4d1189422bd6e72a17a40803438041e6c5d8caeb7517314f0d0c2b93a8f15d28"), looks := false }, kinds := [], alts := [], laidByText := true, laidKinds := [.data, .pinned], laidTests := true, laidLooks := .later }
def SpanHomeCardSaid : Prop := Claim7.holds Tryd.pinned (.plain (OpenSpec.ofChange spanHomeSpec)) spanHomeCard

/-- THE TIED CARD OF 'hawserlaw06.SpanNormals'. -/
def spanNormalsCard : Claim7 := { stood := { row := spanNormalsRow, standIns := [], harness := (true, "4d1189422bd6e72a17a40803438041e6c5d8caeb7517314f0d0c2b93a8f15d28"), looks := false }, kinds := [], alts := [], laidByText := true, laidKinds := [.data], laidTests := true, laidLooks := .later }
def SpanNormalsCardSaid : Prop := Claim7.holds Tryd.pinned (.plain (OpenSpec.ofChange spanNormalsSpec)) spanNormalsCard

/-- THE TIED CARD OF 'hawserlaw10.MerkleVerifies'. -/
def merkleVerifiesCard : Claim7 := { stood := { row := merkleVerifiesRow, standIns := [], harness := (true, "4d1189422bd6e72a17a40803438041e6c5d8caeb7517314f0d0c2b93a8f15d28"), looks := false }, kinds := [], alts := [], laidByText := true, laidKinds := [.data, .pinned], laidTests := true, laidLooks := .later }
def MerkleVerifiesCardSaid : Prop := Claim7.holds Tryd.pinned (.plain (OpenSpec.ofChange merkleVerifiesSpec)) merkleVerifiesCard

/-- THE TIED CARD OF 'hawserlaw06.SpanRanges'. -/
def spanRangesCard : Claim7 := { stood := { row := spanRangesRow, standIns := [], harness := (true, "4d1189422bd6e72a17a40803438041e6c5d8caeb7517314f0d0c2b93a8f15d28"), looks := false }, kinds := [], alts := [], laidByText := true, laidKinds := [.data, .pinned], laidTests := true, laidLooks := .later }
def SpanRangesCardSaid : Prop := Claim7.holds Tryd.pinned (.plain (OpenSpec.ofChange spanRangesSpec)) spanRangesCard

/-- THE SECOND FORM's CARD OF 'hawserlaw06.SpanBuckets'. -/
def spanBucketsUptoCard : Claim7 := { stood := { row := spanBucketsUptoRow, standIns := [], harness := (true, "4d1189422bd6e72a17a40803438041e6c5d8caeb7517314f0d0c2b93a8f15d28"), looks := false }, kinds := [], alts := [], laidByText := true, laidKinds := [.data, .pinned], laidTests := true, laidLooks := .later }
def SpanBucketsUptoCardSaid : Prop := Claim7.holds Tryd.pinned (.plain (OpenSpec.upto spanBucketsSpec)) spanBucketsUptoCard

/-- THE SECOND FORM's CARD OF 'hawserlaw06.SpanHome'. -/
def spanHomeUptoCard : Claim7 := { stood := { row := spanHomeUptoRow, standIns := [], harness := (true, "4d1189422bd6e72a17a40803438041e6c5d8caeb7517314f0d0c2b93a8f15d28"), looks := false }, kinds := [], alts := [], laidByText := true, laidKinds := [.data, .pinned], laidTests := true, laidLooks := .later }
def SpanHomeUptoCardSaid : Prop := Claim7.holds Tryd.pinned (.plain (OpenSpec.upto spanHomeSpec)) spanHomeUptoCard

/-- THE SECOND FORM's CARD OF 'hawserlaw06.SpanNormals'. -/
def spanNormalsUptoCard : Claim7 := { stood := { row := spanNormalsUptoRow, standIns := [], harness := (true, "4d1189422bd6e72a17a40803438041e6c5d8caeb7517314f0d0c2b93a8f15d28"), looks := false }, kinds := [], alts := [], laidByText := true, laidKinds := [.data], laidTests := true, laidLooks := .later }
def SpanNormalsUptoCardSaid : Prop := Claim7.holds Tryd.pinned (.plain (OpenSpec.upto spanNormalsSpec)) spanNormalsUptoCard

/-- THE SECOND FORM's CARD OF 'hawserlaw10.MerkleVerifies'. -/
def merkleVerifiesUptoCard : Claim7 := { stood := { row := merkleVerifiesUptoRow, standIns := [], harness := (true, "4d1189422bd6e72a17a40803438041e6c5d8caeb7517314f0d0c2b93a8f15d28"), looks := false }, kinds := [], alts := [], laidByText := true, laidKinds := [.data, .pinned], laidTests := true, laidLooks := .later }
def MerkleVerifiesUptoCardSaid : Prop := Claim7.holds Tryd.pinned (.plain (OpenSpec.upto merkleVerifiesSpec)) merkleVerifiesUptoCard

/-- THE SECOND FORM's CARD OF 'hawserlaw06.SpanRanges'. -/
def spanRangesUptoCard : Claim7 := { stood := { row := spanRangesUptoRow, standIns := [], harness := (true, "4d1189422bd6e72a17a40803438041e6c5d8caeb7517314f0d0c2b93a8f15d28"), looks := false }, kinds := [], alts := [], laidByText := true, laidKinds := [.data, .pinned], laidTests := true, laidLooks := .later }
def SpanRangesUptoCardSaid : Prop := Claim7.holds Tryd.pinned (.plain (OpenSpec.upto spanRangesSpec)) spanRangesUptoCard
end Rows
end Go.Proofs.YtijlanhhelichaaDoor

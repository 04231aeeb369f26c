/-
  DERIVED. GIVEN WITH THE SEED: THE CARDS: each row of YtmjmjjhfficilaaDoorRows.lean that lists a variable, with what it lists TIED to the program's text (the seventh form; the later family's looks); each row that meets fmt, with fmt's text TOLD by the authors' own Lean function (tested against real Go, not proved from fmt's source: count such statements apart). THE CARD IS WHAT COUNTS. Prove the row's statement (the work); the ties are given (YtmjmjjhfficilaaDoorTie.lean); close each card by the builder's one call (the guide's Derived/Test/ToyasCard.lean, 'card_holds'). Laid BY PROGRAM, IN A SANDBOX (cutbox-door.mjs). By AI agents, Wed Nov 11 2026. No macro, syntax, notation, axiom, sorry.
-/
import Derived.Test.YtmjmjjhfficilaaDoorRows
import GoSem.ClaimSeven
namespace Go.Proofs.YtmjmjjhfficilaaDoor
namespace Rows

/-- THE TIED CARD OF 'hawserlaw06.SpanAll'. -/
def spanAllCard : Claim7 := { stood := { row := spanAllRow, standIns := [], harness := (true, "61311b85dc692a46268d4b3dec14e60205c6a554c5980a58433b0b7b38660d6a"), looks := false }, kinds := [], alts := [], laidByText := true, laidKinds := [.data, .pinned], laidTests := true, laidLooks := .later }
def SpanAllCardSaid : Prop := Claim7.holds Tryd.pinned (.plain (OpenSpec.ofChange spanAllSpec)) spanAllCard

/-- THE TIED CARD OF 'hawserlaw06.SpanTouches'. -/
def spanTouchesCard : Claim7 := { stood := { row := spanTouchesRow, standIns := [], harness := (true, "61311b85dc692a46268d4b3dec14e60205c6a554c5980a58433b0b7b38660d6a"), looks := false }, kinds := [], alts := [], laidByText := true, laidKinds := [.data, .data, .pinned], laidTests := true, laidLooks := .later }
def SpanTouchesCardSaid : Prop := Claim7.holds Tryd.pinned (.plain (OpenSpec.ofChange spanTouchesSpec)) spanTouchesCard

/-- THE TIED CARD OF 'hawserlaw06.SpanMeets'. -/
def spanMeetsCard : Claim7 := { stood := { row := spanMeetsRow, standIns := [], harness := (true, "61311b85dc692a46268d4b3dec14e60205c6a554c5980a58433b0b7b38660d6a"), looks := false }, kinds := [], alts := [], laidByText := true, laidKinds := [.data], laidTests := true, laidLooks := .later }
def SpanMeetsCardSaid : Prop := Claim7.holds Tryd.pinned (.plain (OpenSpec.ofChange spanMeetsSpec)) spanMeetsCard

/-- THE TIED CARD OF 'hawserlaw06.SpanBack'. -/
def spanBackCard : Claim7 := { stood := { row := spanBackRow, standIns := [], harness := (true, "61311b85dc692a46268d4b3dec14e60205c6a554c5980a58433b0b7b38660d6a"), looks := false }, kinds := [], alts := [], laidByText := true, laidKinds := [.data, .pinned], laidTests := true, laidLooks := .later }
def SpanBackCardSaid : Prop := Claim7.holds Tryd.pinned (.plain (OpenSpec.ofChange spanBackSpec)) spanBackCard

/-- THE TIED CARD OF 'hawserlaw06.SpanOwn'. -/
def spanOwnCard : Claim7 := { stood := { row := spanOwnRow, standIns := [], harness := (true, "61311b85dc692a46268d4b3dec14e60205c6a554c5980a58433b0b7b38660d6a"), looks := false }, kinds := [], alts := [], laidByText := true, laidKinds := [.data, .pinned], laidTests := true, laidLooks := .later }
def SpanOwnCardSaid : Prop := Claim7.holds Tryd.pinned (.plain (OpenSpec.ofChange spanOwnSpec)) spanOwnCard

/-- THE SECOND FORM's CARD OF 'hawserlaw06.SpanAll'. -/
def spanAllUptoCard : Claim7 := { stood := { row := spanAllUptoRow, standIns := [], harness := (true, "61311b85dc692a46268d4b3dec14e60205c6a554c5980a58433b0b7b38660d6a"), looks := false }, kinds := [], alts := [], laidByText := true, laidKinds := [.data, .pinned], laidTests := true, laidLooks := .later }
def SpanAllUptoCardSaid : Prop := Claim7.holds Tryd.pinned (.plain (OpenSpec.upto spanAllSpec)) spanAllUptoCard

/-- THE SECOND FORM's CARD OF 'hawserlaw06.SpanTouches'. -/
def spanTouchesUptoCard : Claim7 := { stood := { row := spanTouchesUptoRow, standIns := [], harness := (true, "61311b85dc692a46268d4b3dec14e60205c6a554c5980a58433b0b7b38660d6a"), looks := false }, kinds := [], alts := [], laidByText := true, laidKinds := [.data, .data, .pinned], laidTests := true, laidLooks := .later }
def SpanTouchesUptoCardSaid : Prop := Claim7.holds Tryd.pinned (.plain (OpenSpec.upto spanTouchesSpec)) spanTouchesUptoCard

/-- THE SECOND FORM's CARD OF 'hawserlaw06.SpanMeets'. -/
def spanMeetsUptoCard : Claim7 := { stood := { row := spanMeetsUptoRow, standIns := [], harness := (true, "61311b85dc692a46268d4b3dec14e60205c6a554c5980a58433b0b7b38660d6a"), looks := false }, kinds := [], alts := [], laidByText := true, laidKinds := [.data], laidTests := true, laidLooks := .later }
def SpanMeetsUptoCardSaid : Prop := Claim7.holds Tryd.pinned (.plain (OpenSpec.upto spanMeetsSpec)) spanMeetsUptoCard

/-- THE SECOND FORM's CARD OF 'hawserlaw06.SpanBack'. -/
def spanBackUptoCard : Claim7 := { stood := { row := spanBackUptoRow, standIns := [], harness := (true, "61311b85dc692a46268d4b3dec14e60205c6a554c5980a58433b0b7b38660d6a"), looks := false }, kinds := [], alts := [], laidByText := true, laidKinds := [.data, .pinned], laidTests := true, laidLooks := .later }
def SpanBackUptoCardSaid : Prop := Claim7.holds Tryd.pinned (.plain (OpenSpec.upto spanBackSpec)) spanBackUptoCard

/-- THE SECOND FORM's CARD OF 'hawserlaw06.SpanOwn'. -/
def spanOwnUptoCard : Claim7 := { stood := { row := spanOwnUptoRow, standIns := [], harness := (true, "61311b85dc692a46268d4b3dec14e60205c6a554c5980a58433b0b7b38660d6a"), looks := false }, kinds := [], alts := [], laidByText := true, laidKinds := [.data, .pinned], laidTests := true, laidLooks := .later }
def SpanOwnUptoCardSaid : Prop := Claim7.holds Tryd.pinned (.plain (OpenSpec.upto spanOwnSpec)) spanOwnUptoCard
end Rows
end Go.Proofs.YtmjmjjhfficilaaDoor

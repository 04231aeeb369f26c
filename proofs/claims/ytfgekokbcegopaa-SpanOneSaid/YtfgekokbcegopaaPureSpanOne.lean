/- What is proved: the plain law of SpanOne: Check, Has, Empty and Prefix agree with the document's, for any range and text within a string's reach. -/
import Derived.Test.YtfgekokbcegopaaPSpanOnex2
namespace Go.Proofs.Ytfgekokbcegopaa.Pure
open Go.RowKit Go.Proofs.Ytfgekokbcegopaa.PSpanOne
theorem SpanOne (a b s : ByteArray) (hs : s.size ≤ 140737488351232) : hawserlaw06_SpanOne.f a b s = some true := by
  have h1 : span_Prefix.f s = some (s, prefTo s) := by unfold span_Prefix.f maxLen; rw [if_pos (by omega)]
  have h2 : hawserref06_Prefix.f s = some (s, prefTo s) := by unfold hawserref06_Prefix.f maxLen; rw [if_pos (by omega)]
  have h3 : hawserref06_Check.f s = span_Check.f s := rfl
  have h4 : hawserref06_Has.f a b s = span_Has.f a b s := rfl
  have h5 : hawserref06_Empty.f a b = span_Empty.f a b := rfl
  obtain ⟨c, hc⟩ : ∃ c, span_Check.f s = some c := by unfold span_Check.f; (repeat' split) <;> exact ⟨_, rfl⟩
  obtain ⟨d, hd⟩ : ∃ c, span_Has.f a b s = some c := by unfold span_Has.f; (repeat' split) <;> exact ⟨_, rfl⟩
  obtain ⟨e, he⟩ : ∃ c, span_Empty.f a b = some c := by unfold span_Empty.f; (repeat' split) <;> exact ⟨_, rfl⟩
  unfold hawserlaw06_SpanOne.f
  rw [h1, h2, h3, h4, h5, hc, hd, he]
  simp [hawserlaw06_num.f]
end Go.Proofs.Ytfgekokbcegopaa.Pure

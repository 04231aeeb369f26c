/- What is proved: the plain statement of the law SpanNames (the errors' and limits' numbers, and the bucket of a three-digit key), without conditions. -/
import Derived.Test.YtfgekokbcegopaaPSpanNamesx1
namespace Go.Proofs.Ytfgekokbcegopaa.Pure
open Go.RowKit Go.Proofs.Ytfgekokbcegopaa.PSpanNames Go.Proofs.YtfgekokbcegopaaW.PrintWords Go.Proofs.YtfgekokbcegopaaW.PrintLast

theorem SpanNames : hawserlaw06_SpanNames.Pure := ⟨20, by decide +kernel⟩

end Go.Proofs.Ytfgekokbcegopaa.Pure

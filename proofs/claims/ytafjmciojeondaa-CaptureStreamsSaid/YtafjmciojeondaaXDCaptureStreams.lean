/- Words that carry a law's plain form to its row and its card. Written by rows.py, a program of this claim's author. -/
import Derived.Test.YtafjmciojeondaaX23
namespace Go.Proofs.Ytafjmciojeondaa.X
open Go.RowKit Go.Proofs.YtafjmciojeondaaW.PrintWords Go.Proofs.YtafjmciojeondaaW.PrintLast Go.Proofs.YtafjmciojeondaaW.PrintMore
/-- The one pure statement of CaptureStreams. -/
def intrusionlaw09_CaptureStreams.Pure : Prop := ∀ (l0 : List ByteArray), l0.length ≤ 9223372036854775807 → (∀ x, x ∈ l0 → x.size ≤ 140737488351232) → ∃ k, intrusionlaw09_CaptureStreams.f k l0 = some true
end Go.Proofs.Ytafjmciojeondaa.X

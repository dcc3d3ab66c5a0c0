/- Words that carry a law's plain form to its row and its card. Written by rows.py, a program of this claim's author. -/
import Derived.Test.YtafjmciojeondaaX18
namespace Go.Proofs.Ytafjmciojeondaa.X
open Go.RowKit Go.Proofs.YtafjmciojeondaaW.PrintWords Go.Proofs.YtafjmciojeondaaW.PrintLast Go.Proofs.YtafjmciojeondaaW.PrintMore
/-- The one pure statement of CaptureReads. -/
def intrusionlaw09_CaptureReads.Pure : Prop := ∀ (a0 : ByteArray), a0.size ≤ 140737488351232 → ∃ k, intrusionlaw09_CaptureReads.f k a0 = some true
end Go.Proofs.Ytafjmciojeondaa.X

/- Words that carry a law's plain form to its row and its card. Written by rows.py, a program of this claim's author. -/
import Derived.Test.YtocobalkikkhlaaDoorX13
namespace Go.Proofs.YtocobalkikkhlaaDoor.X
open Go.RowKit Go.Proofs.YtocobalkikkhlaaDoorW.PrintWords Go.Proofs.YtocobalkikkhlaaDoorW.PrintLast Go.Proofs.YtocobalkikkhlaaDoorW.PrintMore
/-- The one pure statement of TunnelFrames. -/
def intrusionlaw17_TunnelFrames.Pure : Prop := ∀ (a0 : ByteArray), a0.size ≤ 140737488351232 → ∃ k, intrusionlaw17_TunnelFrames.f k a0 = some true
end Go.Proofs.YtocobalkikkhlaaDoor.X

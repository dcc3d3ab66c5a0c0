/- Words that carry a law's plain form to its row and its card. Written by rows.py, a program of this claim's author. -/
import Derived.Test.YtjlhicpkceplhaaDoorX7
namespace Go.Proofs.YtjlhicpkceplhaaDoor.X
open Go.RowKit Go.Proofs.YtjlhicpkceplhaaDoorW.PrintWords Go.Proofs.YtjlhicpkceplhaaDoorW.PrintLast Go.Proofs.YtjlhicpkceplhaaDoorW.PrintMore
/-- The one pure statement of ChecksumContinues. -/
def intrusionlaw02_ChecksumContinues.Pure : Prop := ∀ (a0 : ByteArray) (a1 : ByteArray), a0.size ≤ 140737488351232 → a1.size ≤ 140737488351232 → ∃ k, intrusionlaw02_ChecksumContinues.f k a0 a1 = some true
end Go.Proofs.YtjlhicpkceplhaaDoor.X

/- Words that carry a law's plain form to its row and its card. Written by rows.py, a program of this claim's author. -/
import Derived.Test.YtljboandbjahdaaX19
namespace Go.Proofs.Ytljboandbjahdaa.X
open Go.RowKit Go.Proofs.YtljboandbjahdaaW.PrintWords Go.Proofs.YtljboandbjahdaaW.PrintLast Go.Proofs.YtljboandbjahdaaW.PrintMore
/-- The one pure statement of Ipv6Decodes. -/
def intrusionlaw12_Ipv6Decodes.Pure : Prop := ∀ (a0 : ByteArray), a0.size ≤ 140737488351232 → ∃ k, intrusionlaw12_Ipv6Decodes.f k a0 = some true
end Go.Proofs.Ytljboandbjahdaa.X

/- Words that carry a law's plain form to its row and its card. Written by rows.py, a program of this claim's author. -/
import Derived.Test.YtobioaommmgehaaX24
namespace Go.Proofs.Ytobioaommmgehaa.X
open Go.RowKit Go.Proofs.YtobioaommmgehaaW.PrintWords Go.Proofs.YtobioaommmgehaaW.PrintLast Go.Proofs.YtobioaommmgehaaW.PrintMore
/-- The one pure statement of Ipv4Accepts. -/
def intrusionlaw11_Ipv4Accepts.Pure : Prop := ∀ (a0 : ByteArray), a0.size ≤ 140737488351232 → ∃ k, intrusionlaw11_Ipv4Accepts.f k a0 = some true
end Go.Proofs.Ytobioaommmgehaa.X

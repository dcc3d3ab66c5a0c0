/- Words that carry a law's plain form to its row and its card. Written by rows.py, a program of this claim's author. -/
import Derived.Test.YtellbiicmiljcaaDoorX16
namespace Go.Proofs.YtellbiicmiljcaaDoor.X
open Go.RowKit Go.Proofs.YtellbiicmiljcaaDoorW.PrintWords Go.Proofs.YtellbiicmiljcaaDoorW.PrintLast Go.Proofs.YtellbiicmiljcaaDoorW.PrintMore
/-- The one pure statement of EthernetAgain. -/
def intrusionlaw10_EthernetAgain.Pure : Prop := ∀ (a0 : ByteArray), a0.size ≤ 140737488351232 → ∃ k, intrusionlaw10_EthernetAgain.f k a0 = some true
end Go.Proofs.YtellbiicmiljcaaDoor.X

/- Words that carry a law's plain form to its row and its card. Written by rows.py, a program of this claim's author. -/
import Derived.Test.YtellbiicmiljcaaDoorX12
namespace Go.Proofs.YtellbiicmiljcaaDoor.X
open Go.RowKit Go.Proofs.YtellbiicmiljcaaDoorW.PrintWords Go.Proofs.YtellbiicmiljcaaDoorW.PrintLast Go.Proofs.YtellbiicmiljcaaDoorW.PrintMore
/-- The one pure statement of EthernetMacs. -/
def intrusionlaw10_EthernetMacs.Pure : Prop := ∀ (a0 : Int) (a1 : ByteArray), (Lit.int .u64 a0).wf = true → a1.size ≤ 140737488351232 → ∃ k, intrusionlaw10_EthernetMacs.f k a0 a1 = some true
end Go.Proofs.YtellbiicmiljcaaDoor.X

/- Words that carry a law's plain form to its row and its card. Written by rows.py, a program of this claim's author. -/
import Derived.Test.YtdjbmfjeplheiaaDoorX14
namespace Go.Proofs.YtdjbmfjeplheiaaDoor.X
open Go.RowKit Go.Proofs.YtdjbmfjeplheiaaDoorW.PrintWords Go.Proofs.YtdjbmfjeplheiaaDoorW.PrintLast Go.Proofs.YtdjbmfjeplheiaaDoorW.PrintMore
/-- The one pure statement of UdpDecodes. -/
def intrusionlaw13_UdpDecodes.Pure : Prop := ∀ (a0_0 : Bool) (a0_1 : Int) (a0_2 : Int) (a0_3 : Bool) (a0_4 : Int) (a0_5 : Int) (a1 : ByteArray), (Lit.int .u64 a0_1).wf = true → (Lit.int .u64 a0_2).wf = true → (Lit.int .u64 a0_4).wf = true → (Lit.int .u64 a0_5).wf = true → a1.size ≤ 140737488351232 → ∃ k, intrusionlaw13_UdpDecodes.f k a0_0 a0_1 a0_2 a0_3 a0_4 a0_5 a1 = some true
end Go.Proofs.YtdjbmfjeplheiaaDoor.X

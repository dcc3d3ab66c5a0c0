/- Words that carry a law's plain form to its row and its card. Written by rows.py, a program of this claim's author. -/
import Derived.Test.YtellbiicmiljcaaDoorX15
namespace Go.Proofs.YtellbiicmiljcaaDoor.X
open Go.RowKit Go.Proofs.YtellbiicmiljcaaDoorW.PrintWords Go.Proofs.YtellbiicmiljcaaDoorW.PrintLast Go.Proofs.YtellbiicmiljcaaDoorW.PrintMore
/-- The one pure statement of EthernetRoundTrip. -/
def intrusionlaw10_EthernetRoundTrip.Pure : Prop := ∀ (a0_0 : Int) (a0_1 : Int) (l0_2 : List Int) (a0_3 : Int) (a0_4 : ByteArray), (Lit.int .u64 a0_0).wf = true → (Lit.int .u64 a0_1).wf = true → l0_2.length ≤ 9223372036854775807 → (∀ x, x ∈ l0_2 → (Lit.int .i64 x).wf = true) → (Lit.int .i64 a0_3).wf = true → a0_4.size ≤ 9223372036854775807 → ∃ k, intrusionlaw10_EthernetRoundTrip.f k a0_0 a0_1 l0_2 a0_3 a0_4 = some true
end Go.Proofs.YtellbiicmiljcaaDoor.X

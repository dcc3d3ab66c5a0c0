/- Words that carry a law's plain form to its row and its card. Written by rows.py, a program of this claim's author. -/
import Derived.Test.YtafjmciojeondaaX24
namespace Go.Proofs.Ytafjmciojeondaa.X
open Go.RowKit Go.Proofs.YtafjmciojeondaaW.PrintWords Go.Proofs.YtafjmciojeondaaW.PrintLast Go.Proofs.YtafjmciojeondaaW.PrintMore
/-- The one pure statement of CaptureRoundTrip. -/
def intrusionlaw09_CaptureRoundTrip.Pure : Prop := ∀ (l0 : List S33), l0.length ≤ 9223372036854775807 → (∀ x, x ∈ l0 → (Lit.int .i64 x.f0).wf = true ∧ (Lit.int .i64 x.f1).wf = true ∧ x.f2.size ≤ 140737488351232) → ∃ k, intrusionlaw09_CaptureRoundTrip.f k l0 = some true
end Go.Proofs.Ytafjmciojeondaa.X

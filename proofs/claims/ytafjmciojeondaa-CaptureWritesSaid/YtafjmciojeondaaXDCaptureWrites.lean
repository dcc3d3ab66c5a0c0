/- Words that carry a law's plain form to its row and its card. Written by rows.py, a program of this claim's author. -/
import Derived.Test.YtafjmciojeondaaX19
namespace Go.Proofs.Ytafjmciojeondaa.X
open Go.RowKit Go.Proofs.YtafjmciojeondaaW.PrintWords Go.Proofs.YtafjmciojeondaaW.PrintLast Go.Proofs.YtafjmciojeondaaW.PrintMore
/-- The one pure statement of CaptureWrites. -/
def intrusionlaw09_CaptureWrites.Pure : Prop := ∀ (l0 : List S33), l0.length ≤ 9223372036854775807 → (∀ x, x ∈ l0 → (Lit.int .i64 x.f0).wf = true ∧ (Lit.int .i64 x.f1).wf = true ∧ x.f2.size ≤ 140737488351232) → ∃ k, intrusionlaw09_CaptureWrites.f k l0 = some true
end Go.Proofs.Ytafjmciojeondaa.X

/- Words that carry a law's plain form to its row and its card. Written by rows.py, a program of this claim's author. -/
import Derived.Test.YtjlhicpkceplhaaDoorX3
namespace Go.Proofs.YtjlhicpkceplhaaDoor.X
open Go.RowKit Go.Proofs.YtjlhicpkceplhaaDoorW.PrintWords Go.Proofs.YtjlhicpkceplhaaDoorW.PrintLast Go.Proofs.YtjlhicpkceplhaaDoorW.PrintMore
/-- The one pure statement of ChecksumUpdates. -/
def intrusionlaw02_ChecksumUpdates.Pure : Prop := ∀ (a0 : Int) (a1 : Int) (a2 : Int), (Lit.int .i64 a0).wf = true → (Lit.int .i64 a1).wf = true → (Lit.int .i64 a2).wf = true → ∃ k, intrusionlaw02_ChecksumUpdates.f k a0 a1 a2 = some true
end Go.Proofs.YtjlhicpkceplhaaDoor.X

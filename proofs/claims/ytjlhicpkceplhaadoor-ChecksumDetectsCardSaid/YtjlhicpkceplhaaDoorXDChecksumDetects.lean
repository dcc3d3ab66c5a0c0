/- Words that carry a law's plain form to its row and its card. Written by rows.py, a program of this claim's author. -/
import Derived.Test.YtjlhicpkceplhaaDoorX8
namespace Go.Proofs.YtjlhicpkceplhaaDoor.X
open Go.RowKit Go.Proofs.YtjlhicpkceplhaaDoorW.PrintWords Go.Proofs.YtjlhicpkceplhaaDoorW.PrintLast Go.Proofs.YtjlhicpkceplhaaDoorW.PrintMore
/-- The one pure statement of ChecksumDetects. -/
def intrusionlaw02_ChecksumDetects.Pure : Prop := ∀ (a0 : ByteArray) (a1 : Int) (a2 : Int), a0.size ≤ 140737488351232 → (Lit.int .i64 a1).wf = true → (Lit.int .u16 a2).wf = true → ∃ k, intrusionlaw02_ChecksumDetects.f k a0 a1 a2 = some true
end Go.Proofs.YtjlhicpkceplhaaDoor.X

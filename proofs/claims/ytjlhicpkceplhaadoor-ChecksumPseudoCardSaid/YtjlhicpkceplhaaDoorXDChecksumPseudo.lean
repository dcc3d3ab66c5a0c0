/- Words that carry a law's plain form to its row and its card. Written by rows.py, a program of this claim's author. -/
import Derived.Test.YtjlhicpkceplhaaDoorX6
namespace Go.Proofs.YtjlhicpkceplhaaDoor.X
open Go.RowKit Go.Proofs.YtjlhicpkceplhaaDoorW.PrintWords Go.Proofs.YtjlhicpkceplhaaDoorW.PrintLast Go.Proofs.YtjlhicpkceplhaaDoorW.PrintMore
/-- The one pure statement of ChecksumPseudo. -/
def intrusionlaw02_ChecksumPseudo.Pure : Prop := ∀ (a0_0 : Bool) (a0_1 : Int) (a0_2 : Int) (a1_0 : Bool) (a1_1 : Int) (a1_2 : Int) (a2 : Int) (a3 : Int), (Lit.int .u64 a0_1).wf = true → (Lit.int .u64 a0_2).wf = true → (Lit.int .u64 a1_1).wf = true → (Lit.int .u64 a1_2).wf = true → (Lit.int .i64 a2).wf = true → (Lit.int .i64 a3).wf = true → ∃ k, intrusionlaw02_ChecksumPseudo.f k a0_0 a0_1 a0_2 a1_0 a1_1 a1_2 a2 a3 = some true
end Go.Proofs.YtjlhicpkceplhaaDoor.X

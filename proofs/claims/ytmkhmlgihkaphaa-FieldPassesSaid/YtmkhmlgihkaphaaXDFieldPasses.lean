/- Words that carry a law's plain form to its row and its card. Written by rows.py, a program of this claim's author. -/
import Derived.Test.YtmkhmlgihkaphaaX4
namespace Go.Proofs.Ytmkhmlgihkaphaa.X
open Go.RowKit Go.Proofs.YtmkhmlgihkaphaaW.PrintWords Go.Proofs.YtmkhmlgihkaphaaW.PrintLast Go.Proofs.YtmkhmlgihkaphaaW.PrintMore
/-- The one pure statement of FieldPasses. -/
def intrusionlaw01_FieldPasses.Pure : Prop := ∀ (a0 : ByteArray) (l1 : List Int), a0.size ≤ 140737488351232 → l1.length ≤ 9223372036854775807 → (∀ x, x ∈ l1 → (Lit.int .u8 x).wf = true) → ∃ k, intrusionlaw01_FieldPasses.f k a0 l1 = some true
end Go.Proofs.Ytmkhmlgihkaphaa.X

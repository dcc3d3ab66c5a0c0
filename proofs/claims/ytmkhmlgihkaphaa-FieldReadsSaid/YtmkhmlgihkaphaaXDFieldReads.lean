/- Words that carry a law's plain form to its row and its card. Written by rows.py, a program of this claim's author. -/
import Derived.Test.YtmkhmlgihkaphaaX10
namespace Go.Proofs.Ytmkhmlgihkaphaa.X
open Go.RowKit Go.Proofs.YtmkhmlgihkaphaaW.PrintWords Go.Proofs.YtmkhmlgihkaphaaW.PrintLast Go.Proofs.YtmkhmlgihkaphaaW.PrintMore
/-- The one pure statement of FieldReads. -/
def intrusionlaw01_FieldReads.Pure : Prop := ∀ (a0 : ByteArray) (l1 : List S31), a0.size ≤ 140737488351232 → l1.length ≤ 9223372036854775807 → (∀ x, x ∈ l1 → (Lit.int .i64 x.f0).wf = true ∧ (Lit.int .i64 x.f1).wf = true) → ∃ k, intrusionlaw01_FieldReads.f k a0 l1 = some true
end Go.Proofs.Ytmkhmlgihkaphaa.X

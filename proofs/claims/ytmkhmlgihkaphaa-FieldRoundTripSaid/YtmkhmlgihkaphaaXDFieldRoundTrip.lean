/- Words that carry a law's plain form to its row and its card. Written by rows.py, a program of this claim's author. -/
import Derived.Test.YtmkhmlgihkaphaaX5
namespace Go.Proofs.Ytmkhmlgihkaphaa.X
open Go.RowKit Go.Proofs.YtmkhmlgihkaphaaW.PrintWords Go.Proofs.YtmkhmlgihkaphaaW.PrintLast Go.Proofs.YtmkhmlgihkaphaaW.PrintMore
/-- The one pure statement of FieldRoundTrip. -/
def intrusionlaw01_FieldRoundTrip.Pure : Prop := ∀ (a0_0 : Int) (a0_1 : ByteArray) (a0_2 : ByteArray) (a1 : Int), (Lit.int .u8 a0_0).wf = true → a0_1.size ≤ 9223372036854775807 → a0_2.size ≤ 9223372036854775807 → (Lit.int .u64 a1).wf = true → ∃ k, intrusionlaw01_FieldRoundTrip.f k a0_0 a0_1 a0_2 a1 = some true
end Go.Proofs.Ytmkhmlgihkaphaa.X

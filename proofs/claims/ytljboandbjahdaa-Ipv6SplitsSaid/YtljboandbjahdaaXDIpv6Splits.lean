/- Words that carry a law's plain form to its row and its card. Written by rows.py, a program of this claim's author. -/
import Derived.Test.YtljboandbjahdaaX22
namespace Go.Proofs.Ytljboandbjahdaa.X
open Go.RowKit Go.Proofs.YtljboandbjahdaaW.PrintWords Go.Proofs.YtljboandbjahdaaW.PrintLast Go.Proofs.YtljboandbjahdaaW.PrintMore
/-- The one pure statement of Ipv6Splits. -/
def intrusionlaw12_Ipv6Splits.Pure : Prop := ∀ (a0_0 : Int) (a0_1 : Int) (a0_2 : Int) (a0_3 : Int) (a0_4 : Bool) (a0_5 : Int) (a0_6 : Int) (a0_7 : Bool) (a0_8 : Int) (a0_9 : Int) (l0_10 : List S60) (a0_11 : Bool) (a0_12 : Int) (a0_13 : Int) (a0_14 : Bool) (a0_15 : ByteArray) (a1 : Int) (a2 : Int), (Lit.int .i64 a0_0).wf = true → (Lit.int .i64 a0_1).wf = true → (Lit.int .i64 a0_2).wf = true → (Lit.int .i64 a0_3).wf = true → (Lit.int .u64 a0_5).wf = true → (Lit.int .u64 a0_6).wf = true → (Lit.int .u64 a0_8).wf = true → (Lit.int .u64 a0_9).wf = true → l0_10.length ≤ 9223372036854775807 → (∀ x, x ∈ l0_10 → (Lit.int .i64 x.f0).wf = true ∧ x.f1.size ≤ 9223372036854775807) → (Lit.int .i64 a0_12).wf = true → (Lit.int .i64 a0_13).wf = true → a0_15.size ≤ 9223372036854775807 → (Lit.int .i64 a1).wf = true → (Lit.int .i64 a2).wf = true → ∃ k, intrusionlaw12_Ipv6Splits.f k a0_0 a0_1 a0_2 a0_3 a0_4 a0_5 a0_6 a0_7 a0_8 a0_9 l0_10 a0_11 a0_12 a0_13 a0_14 a0_15 a1 a2 = some true
end Go.Proofs.Ytljboandbjahdaa.X

/- FieldPuts as a plain law: the program's Put and PutLittle and the document's return the same bytes for all 64-bit numbers and sizes, and the awake examples hold; no further condition. -/
import Derived.Test.YtmkhmlgihkaphaaXDFieldPuts
import Derived.Test.YtmkhmlgihkaphaaRef01
namespace Go.Proofs.Ytmkhmlgihkaphaa.Pure
open Go.RowKit Go.Proofs.Ytmkhmlgihkaphaa.X Go.Proofs.YtmkhmlgihkaphaaW.PrintWords Go.Proofs.YtmkhmlgihkaphaaW.PrintLast Go.Proofs.YtmkhmlgihkaphaaW.PrintMore

theorem FieldPuts : intrusionlaw01_FieldPuts.Pure := by
  intro n size hn hs
  have hn := wf_i64 hn
  have hl := putOf_len n size
  refine ⟨60, ?_⟩
  unfold intrusionlaw01_FieldPuts.f field_PutLittle.f intrusionref01_PutLittle.f
  rw [put_is _ _ _ (by omega), rput_all _ _ _ (by omega) (by omega) (by omega), awake_is _ (by omega)]
  simp only [Option.bind_some]
  rw [reverse_is _ (by omega) _ (by omega), if_pos (show (putOf n size).size ≤ 9223372036854775807 by omega)]
  simp

end Go.Proofs.Ytmkhmlgihkaphaa.Pure

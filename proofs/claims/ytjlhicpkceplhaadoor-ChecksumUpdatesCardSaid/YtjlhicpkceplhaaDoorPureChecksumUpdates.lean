/- ChecksumUpdates as a plain law: for all 64-bit integers the program's Add and Update and the document's return the same numbers, and the awake examples hold; no further condition. -/
import Derived.Test.YtjlhicpkceplhaaDoorXDChecksumUpdates
import Derived.Test.YtjlhicpkceplhaaDoorRef02
namespace Go.Proofs.YtjlhicpkceplhaaDoor.Pure
open Go.RowKit Go.Proofs.YtjlhicpkceplhaaDoor.X Go.Proofs.YtjlhicpkceplhaaDoorW.PrintWords Go.Proofs.YtjlhicpkceplhaaDoorW.PrintLast Go.Proofs.YtjlhicpkceplhaaDoorW.PrintMore

theorem ChecksumUpdates : intrusionlaw02_ChecksumUpdates.Pure := by
  intro a b c _ _ _
  refine ⟨10, ?_⟩
  unfold intrusionlaw02_ChecksumUpdates.f
  rw [add_is, radd_is, update_is, rupdate_is, awake10]
  simp

end Go.Proofs.YtjlhicpkceplhaaDoor.Pure

/- ChecksumSums as a plain law: for every string the program's Sum and the document's are the same number, and the awake examples hold; the string is at most as long as a machine's address space lets it be. -/
import Derived.Test.YtjlhicpkceplhaaDoorXDChecksumSums
import Derived.Test.YtjlhicpkceplhaaDoorRef02
namespace Go.Proofs.YtjlhicpkceplhaaDoor.Pure
open Go.RowKit Go.Proofs.YtjlhicpkceplhaaDoor.X Go.Proofs.YtjlhicpkceplhaaDoorW.PrintWords Go.Proofs.YtjlhicpkceplhaaDoorW.PrintLast Go.Proofs.YtjlhicpkceplhaaDoorW.PrintMore

theorem ChecksumSums : intrusionlaw02_ChecksumSums.Pure := by
  intro s hs
  refine ⟨s.size + 10, ?_⟩
  unfold intrusionlaw02_ChecksumSums.f intrusionlaw02_long.f
  rw [awake_is _ (by omega), sum_is s (by omega) _ (by omega), rsum_is s (by omega) _ (by omega)]
  simp

end Go.Proofs.YtjlhicpkceplhaaDoor.Pure

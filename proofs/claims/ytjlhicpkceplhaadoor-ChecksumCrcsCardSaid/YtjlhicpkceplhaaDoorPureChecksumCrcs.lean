/- ChecksumCrcs as a plain law: for every string and every 32-bit beginning the program's CRC-32 and the document's are the same number, and the awake examples hold; no condition but that a machine holds the string. -/
import Derived.Test.YtjlhicpkceplhaaDoorXDChecksumCrcs
import Derived.Test.YtjlhicpkceplhaaDoorCrc02
namespace Go.Proofs.YtjlhicpkceplhaaDoor.Pure
open Go.RowKit Go.Proofs.YtjlhicpkceplhaaDoor.X Go.Proofs.YtjlhicpkceplhaaDoorW.PrintWords Go.Proofs.YtjlhicpkceplhaaDoorW.PrintLast Go.Proofs.YtjlhicpkceplhaaDoorW.PrintMore

theorem ChecksumCrcs : intrusionlaw02_ChecksumCrcs.Pure := by
  intro c s hc hs
  have hc2 := wf_u32 hc
  obtain ⟨n, rfl⟩ : ∃ n : Nat, c = (n : Int) := ⟨c.toNat, by omega⟩
  have hn : n < 4294967296 := by omega
  refine ⟨10 * s.size + 10, ?_⟩
  unfold intrusionlaw02_ChecksumCrcs.f intrusionlaw02_long.f
  rw [awake_is _ (by omega), crc_is s (by omega), rcrc_is s (by omega) _ (by omega), crcUpdate_is n s hn (by omega), rcrcUpdate_is n s hn (by omega) _ (by omega)]
  simp

end Go.Proofs.YtjlhicpkceplhaaDoor.Pure

/-
  DERIVED. GIVEN WITH THE SEED: THE PROGRAM's TIES (one call each: nine closed facts by the kernel) AND EACH ROW's TIE, after the 31st guide's Derived/Test/Toyas{Tie, Card}.lean. No idea stands in it: it is a product of the set-up. Laid BY PROGRAM, IN A SANDBOX (cutbox-door.mjs). By AI agents, Wed Nov 11 2026. No macro, syntax, notation, axiom, sorry.
-/
import Derived.Test.YtocobalkikkhlaaDoorRows
import Derived.LaidByTextLater
import Derived.SevenTiedAt
import Derived.LaidSub
import Derived.LaidOnce
namespace Go.Proofs.YtocobalkikkhlaaDoor
open Go
set_option maxRecDepth 100000
theorem seatTie1 : Tryd.prog.laidByTextLater [("intrusion/checksum.shifts", Rows.laid_intrusion_checksum_shifts), ("intrusion/ethernet.tags", Rows.laid_intrusion_ethernet_tags)] [.widerDeep, .data] true :=
  Program.laidByTextLater_by_one 19 8 9 (by kernel_rfl) (by kernel_rfl) (by kernel_rfl) (by kernel_rfl) (by kernel_rfl) (by kernel_rfl) (fun _ _ => by kernel_rfl)
theorem noOwnUnsafe : Tryd.pinned.checked.prog.headLifts.contains "ownunsafe" = false := by kernel_rfl
theorem tie : Tryd.prog.laidByTextLater [("intrusion/checksum.shifts", Rows.laid_intrusion_checksum_shifts)] [.widerDeep] true :=
  Program.laidByTextLater.sub seatTie1 ["intrusion/checksum.shifts"] (by kernel_rfl) (by kernel_rfl)
theorem tunnelGre_row_tie : Rows.tunnelGreRow.laidByTextAt .later Tryd.pinned [.widerDeep] true :=
  OpenClaim.laidByTextAt_later rfl rfl tie noOwnUnsafe
theorem tunnelNests_row_tie : Rows.tunnelNestsRow.laidByTextAt .later Tryd.pinned [.widerDeep] true :=
  OpenClaim.laidByTextAt_later rfl rfl tie noOwnUnsafe
theorem tunnelInner_row_tie : Rows.tunnelInnerRow.laidByTextAt .later Tryd.pinned [.widerDeep] true :=
  OpenClaim.laidByTextAt_later rfl rfl tie noOwnUnsafe
theorem tunnelNotices_row_tie : Rows.tunnelNoticesRow.laidByTextAt .later Tryd.pinned [.widerDeep] true :=
  OpenClaim.laidByTextAt_later rfl rfl tie noOwnUnsafe
theorem tunnelWraps_row_tie : Rows.tunnelWrapsRow.laidByTextAt .later Tryd.pinned [.widerDeep] true :=
  OpenClaim.laidByTextAt_later rfl rfl tie noOwnUnsafe
theorem tunnelRoundTrip_row_tie : Rows.tunnelRoundTripRow.laidByTextAt .later Tryd.pinned [.widerDeep] true :=
  OpenClaim.laidByTextAt_later rfl rfl tie noOwnUnsafe
theorem tie2 : Tryd.prog.laidByTextLater [("intrusion/checksum.shifts", Rows.laid_intrusion_checksum_shifts), ("intrusion/ethernet.tags", Rows.laid_intrusion_ethernet_tags)] [.widerDeep, .data] true :=
  Program.laidByTextLater.sub seatTie1 ["intrusion/checksum.shifts", "intrusion/ethernet.tags"] (by kernel_rfl) (by kernel_rfl)
theorem tunnelFrames_row_tie : Rows.tunnelFramesRow.laidByTextAt .later Tryd.pinned [.widerDeep, .data] true :=
  OpenClaim.laidByTextAt_later rfl rfl tie2 noOwnUnsafe
theorem tunnelGreUpto_row_tie : Rows.tunnelGreUptoRow.laidByTextAt .later Tryd.pinned [.widerDeep] true :=
  OpenClaim.laidByTextAt_later rfl rfl tie noOwnUnsafe
theorem tunnelNestsUpto_row_tie : Rows.tunnelNestsUptoRow.laidByTextAt .later Tryd.pinned [.widerDeep] true :=
  OpenClaim.laidByTextAt_later rfl rfl tie noOwnUnsafe
theorem tunnelInnerUpto_row_tie : Rows.tunnelInnerUptoRow.laidByTextAt .later Tryd.pinned [.widerDeep] true :=
  OpenClaim.laidByTextAt_later rfl rfl tie noOwnUnsafe
theorem tunnelNoticesUpto_row_tie : Rows.tunnelNoticesUptoRow.laidByTextAt .later Tryd.pinned [.widerDeep] true :=
  OpenClaim.laidByTextAt_later rfl rfl tie noOwnUnsafe
theorem tunnelFramesUpto_row_tie : Rows.tunnelFramesUptoRow.laidByTextAt .later Tryd.pinned [.widerDeep, .data] true :=
  OpenClaim.laidByTextAt_later rfl rfl tie2 noOwnUnsafe
theorem tunnelWrapsUpto_row_tie : Rows.tunnelWrapsUptoRow.laidByTextAt .later Tryd.pinned [.widerDeep] true :=
  OpenClaim.laidByTextAt_later rfl rfl tie noOwnUnsafe
theorem tunnelRoundTripUpto_row_tie : Rows.tunnelRoundTripUptoRow.laidByTextAt .later Tryd.pinned [.widerDeep] true :=
  OpenClaim.laidByTextAt_later rfl rfl tie noOwnUnsafe
end Go.Proofs.YtocobalkikkhlaaDoor

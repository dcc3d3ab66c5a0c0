/-
  DERIVED. GIVEN WITH THE SEED: THE CARDS: each row of YtdjbmfjeplheiaaDoorRows.lean that lists a variable, with what it lists TIED to the program's text (the seventh form; the later family's looks); each row that meets fmt, with fmt's text TOLD by the authors' own Lean function (tested against real Go, not proved from fmt's source: count such statements apart). THE CARD IS WHAT COUNTS. Prove the row's statement (the work); the ties are given (YtdjbmfjeplheiaaDoorTie.lean); close each card by the builder's one call (the guide's Derived/Test/ToyasCard.lean, 'card_holds'). Laid BY PROGRAM, IN A SANDBOX (cutbox-door.mjs). By AI agents, Wed Nov 11 2026. No macro, syntax, notation, axiom, sorry.
-/
import Derived.Test.YtdjbmfjeplheiaaDoorRows
import GoSem.ClaimSeven
namespace Go.Proofs.YtdjbmfjeplheiaaDoor
namespace Rows

/-- THE TIED CARD OF 'intrusionlaw13.UdpDecodes'. -/
def udpDecodesCard : Claim7 := { stood := { row := udpDecodesRow, standIns := [], harness := (true, "531d7eac72f02927ab92ba8ec758bfbf2cb12b9e3ae840b1b1ef222dd90a77ea"), looks := false }, kinds := [], alts := [], laidByText := true, laidKinds := [.widerDeep], laidTests := true, laidLooks := .later }
def UdpDecodesCardSaid : Prop := Claim7.holds Tryd.pinned (.plain (OpenSpec.ofChange udpDecodesSpec)) udpDecodesCard

/-- THE TIED CARD OF 'intrusionlaw13.UdpEncodes'. -/
def udpEncodesCard : Claim7 := { stood := { row := udpEncodesRow, standIns := [], harness := (true, "531d7eac72f02927ab92ba8ec758bfbf2cb12b9e3ae840b1b1ef222dd90a77ea"), looks := false }, kinds := [], alts := [], laidByText := true, laidKinds := [.widerDeep], laidTests := true, laidLooks := .later }
def UdpEncodesCardSaid : Prop := Claim7.holds Tryd.pinned (.plain (OpenSpec.ofChange udpEncodesSpec)) udpEncodesCard

/-- THE TIED CARD OF 'intrusionlaw13.UdpRoundTrip'. -/
def udpRoundTripCard : Claim7 := { stood := { row := udpRoundTripRow, standIns := [], harness := (true, "531d7eac72f02927ab92ba8ec758bfbf2cb12b9e3ae840b1b1ef222dd90a77ea"), looks := false }, kinds := [], alts := [], laidByText := true, laidKinds := [.widerDeep], laidTests := true, laidLooks := .later }
def UdpRoundTripCardSaid : Prop := Claim7.holds Tryd.pinned (.plain (OpenSpec.ofChange udpRoundTripSpec)) udpRoundTripCard

/-- THE TIED CARD OF 'intrusionlaw13.UdpDetects'. -/
def udpDetectsCard : Claim7 := { stood := { row := udpDetectsRow, standIns := [], harness := (true, "531d7eac72f02927ab92ba8ec758bfbf2cb12b9e3ae840b1b1ef222dd90a77ea"), looks := false }, kinds := [], alts := [], laidByText := true, laidKinds := [.widerDeep], laidTests := true, laidLooks := .later }
def UdpDetectsCardSaid : Prop := Claim7.holds Tryd.pinned (.plain (OpenSpec.ofChange udpDetectsSpec)) udpDetectsCard

/-- THE SECOND FORM's CARD OF 'intrusionlaw13.UdpDecodes'. -/
def udpDecodesUptoCard : Claim7 := { stood := { row := udpDecodesUptoRow, standIns := [], harness := (true, "531d7eac72f02927ab92ba8ec758bfbf2cb12b9e3ae840b1b1ef222dd90a77ea"), looks := false }, kinds := [], alts := [], laidByText := true, laidKinds := [.widerDeep], laidTests := true, laidLooks := .later }
def UdpDecodesUptoCardSaid : Prop := Claim7.holds Tryd.pinned (.plain (OpenSpec.upto udpDecodesSpec)) udpDecodesUptoCard

/-- THE SECOND FORM's CARD OF 'intrusionlaw13.UdpEncodes'. -/
def udpEncodesUptoCard : Claim7 := { stood := { row := udpEncodesUptoRow, standIns := [], harness := (true, "531d7eac72f02927ab92ba8ec758bfbf2cb12b9e3ae840b1b1ef222dd90a77ea"), looks := false }, kinds := [], alts := [], laidByText := true, laidKinds := [.widerDeep], laidTests := true, laidLooks := .later }
def UdpEncodesUptoCardSaid : Prop := Claim7.holds Tryd.pinned (.plain (OpenSpec.upto udpEncodesSpec)) udpEncodesUptoCard

/-- THE SECOND FORM's CARD OF 'intrusionlaw13.UdpRoundTrip'. -/
def udpRoundTripUptoCard : Claim7 := { stood := { row := udpRoundTripUptoRow, standIns := [], harness := (true, "531d7eac72f02927ab92ba8ec758bfbf2cb12b9e3ae840b1b1ef222dd90a77ea"), looks := false }, kinds := [], alts := [], laidByText := true, laidKinds := [.widerDeep], laidTests := true, laidLooks := .later }
def UdpRoundTripUptoCardSaid : Prop := Claim7.holds Tryd.pinned (.plain (OpenSpec.upto udpRoundTripSpec)) udpRoundTripUptoCard

/-- THE SECOND FORM's CARD OF 'intrusionlaw13.UdpDetects'. -/
def udpDetectsUptoCard : Claim7 := { stood := { row := udpDetectsUptoRow, standIns := [], harness := (true, "531d7eac72f02927ab92ba8ec758bfbf2cb12b9e3ae840b1b1ef222dd90a77ea"), looks := false }, kinds := [], alts := [], laidByText := true, laidKinds := [.widerDeep], laidTests := true, laidLooks := .later }
def UdpDetectsUptoCardSaid : Prop := Claim7.holds Tryd.pinned (.plain (OpenSpec.upto udpDetectsSpec)) udpDetectsUptoCard
end Rows
end Go.Proofs.YtdjbmfjeplheiaaDoor

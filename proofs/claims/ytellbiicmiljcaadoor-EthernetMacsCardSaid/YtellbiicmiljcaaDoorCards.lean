/-
  DERIVED. GIVEN WITH THE SEED: THE CARDS: each row of YtellbiicmiljcaaDoorRows.lean that lists a variable, with what it lists TIED to the program's text (the seventh form; the later family's looks); each row that meets fmt, with fmt's text TOLD by the authors' own Lean function (tested against real Go, not proved from fmt's source: count such statements apart). THE CARD IS WHAT COUNTS. Prove the row's statement (the work); the ties are given (YtellbiicmiljcaaDoorTie.lean); close each card by the builder's one call (the guide's Derived/Test/ToyasCard.lean, 'card_holds'). Laid BY PROGRAM, IN A SANDBOX (cutbox-door.mjs). By AI agents, Wed Nov 11 2026. No macro, syntax, notation, axiom, sorry.
-/
import Derived.Test.YtellbiicmiljcaaDoorRows
import GoSem.ClaimSeven
namespace Go.Proofs.YtellbiicmiljcaaDoor
namespace Rows

/-- THE TIED CARD OF 'intrusionlaw10.EthernetDecodes'. -/
def ethernetDecodesCard : Claim7 := { stood := { row := ethernetDecodesRow, standIns := [], harness := (true, "56239f4ab5da12c97fb4d0b7a9f6525d712b14acc58bc322d8a4911419d3c2c3"), looks := false }, kinds := [], alts := [], laidByText := true, laidKinds := [.data], laidTests := true, laidLooks := .later }
def EthernetDecodesCardSaid : Prop := Claim7.holds Tryd.pinned (.plain (OpenSpec.ofChange ethernetDecodesSpec)) ethernetDecodesCard

/-- THE TIED CARD OF 'intrusionlaw10.EthernetMacs'. -/
def ethernetMacsCard : Claim7 := { stood := { row := ethernetMacsRow, standIns := [], harness := (true, "56239f4ab5da12c97fb4d0b7a9f6525d712b14acc58bc322d8a4911419d3c2c3"), looks := false }, kinds := [], alts := [], laidByText := true, laidKinds := [.data], laidTests := true, laidLooks := .later }
def EthernetMacsCardSaid : Prop := Claim7.holds Tryd.pinned (.plain (OpenSpec.ofChange ethernetMacsSpec)) ethernetMacsCard

/-- THE TIED CARD OF 'intrusionlaw10.EthernetEncodes'. -/
def ethernetEncodesCard : Claim7 := { stood := { row := ethernetEncodesRow, standIns := [], harness := (true, "56239f4ab5da12c97fb4d0b7a9f6525d712b14acc58bc322d8a4911419d3c2c3"), looks := false }, kinds := [], alts := [], laidByText := true, laidKinds := [.data], laidTests := true, laidLooks := .later }
def EthernetEncodesCardSaid : Prop := Claim7.holds Tryd.pinned (.plain (OpenSpec.ofChange ethernetEncodesSpec)) ethernetEncodesCard

/-- THE TIED CARD OF 'intrusionlaw10.EthernetRoundTrip'. -/
def ethernetRoundTripCard : Claim7 := { stood := { row := ethernetRoundTripRow, standIns := [], harness := (true, "56239f4ab5da12c97fb4d0b7a9f6525d712b14acc58bc322d8a4911419d3c2c3"), looks := false }, kinds := [], alts := [], laidByText := true, laidKinds := [.data], laidTests := true, laidLooks := .later }
def EthernetRoundTripCardSaid : Prop := Claim7.holds Tryd.pinned (.plain (OpenSpec.ofChange ethernetRoundTripSpec)) ethernetRoundTripCard

/-- THE TIED CARD OF 'intrusionlaw10.EthernetAgain'. -/
def ethernetAgainCard : Claim7 := { stood := { row := ethernetAgainRow, standIns := [], harness := (true, "56239f4ab5da12c97fb4d0b7a9f6525d712b14acc58bc322d8a4911419d3c2c3"), looks := false }, kinds := [], alts := [], laidByText := true, laidKinds := [.data], laidTests := true, laidLooks := .later }
def EthernetAgainCardSaid : Prop := Claim7.holds Tryd.pinned (.plain (OpenSpec.ofChange ethernetAgainSpec)) ethernetAgainCard

/-- THE SECOND FORM's CARD OF 'intrusionlaw10.EthernetDecodes'. -/
def ethernetDecodesUptoCard : Claim7 := { stood := { row := ethernetDecodesUptoRow, standIns := [], harness := (true, "56239f4ab5da12c97fb4d0b7a9f6525d712b14acc58bc322d8a4911419d3c2c3"), looks := false }, kinds := [], alts := [], laidByText := true, laidKinds := [.data], laidTests := true, laidLooks := .later }
def EthernetDecodesUptoCardSaid : Prop := Claim7.holds Tryd.pinned (.plain (OpenSpec.upto ethernetDecodesSpec)) ethernetDecodesUptoCard

/-- THE SECOND FORM's CARD OF 'intrusionlaw10.EthernetMacs'. -/
def ethernetMacsUptoCard : Claim7 := { stood := { row := ethernetMacsUptoRow, standIns := [], harness := (true, "56239f4ab5da12c97fb4d0b7a9f6525d712b14acc58bc322d8a4911419d3c2c3"), looks := false }, kinds := [], alts := [], laidByText := true, laidKinds := [.data], laidTests := true, laidLooks := .later }
def EthernetMacsUptoCardSaid : Prop := Claim7.holds Tryd.pinned (.plain (OpenSpec.upto ethernetMacsSpec)) ethernetMacsUptoCard

/-- THE SECOND FORM's CARD OF 'intrusionlaw10.EthernetEncodes'. -/
def ethernetEncodesUptoCard : Claim7 := { stood := { row := ethernetEncodesUptoRow, standIns := [], harness := (true, "56239f4ab5da12c97fb4d0b7a9f6525d712b14acc58bc322d8a4911419d3c2c3"), looks := false }, kinds := [], alts := [], laidByText := true, laidKinds := [.data], laidTests := true, laidLooks := .later }
def EthernetEncodesUptoCardSaid : Prop := Claim7.holds Tryd.pinned (.plain (OpenSpec.upto ethernetEncodesSpec)) ethernetEncodesUptoCard

/-- THE SECOND FORM's CARD OF 'intrusionlaw10.EthernetRoundTrip'. -/
def ethernetRoundTripUptoCard : Claim7 := { stood := { row := ethernetRoundTripUptoRow, standIns := [], harness := (true, "56239f4ab5da12c97fb4d0b7a9f6525d712b14acc58bc322d8a4911419d3c2c3"), looks := false }, kinds := [], alts := [], laidByText := true, laidKinds := [.data], laidTests := true, laidLooks := .later }
def EthernetRoundTripUptoCardSaid : Prop := Claim7.holds Tryd.pinned (.plain (OpenSpec.upto ethernetRoundTripSpec)) ethernetRoundTripUptoCard

/-- THE SECOND FORM's CARD OF 'intrusionlaw10.EthernetAgain'. -/
def ethernetAgainUptoCard : Claim7 := { stood := { row := ethernetAgainUptoRow, standIns := [], harness := (true, "56239f4ab5da12c97fb4d0b7a9f6525d712b14acc58bc322d8a4911419d3c2c3"), looks := false }, kinds := [], alts := [], laidByText := true, laidKinds := [.data], laidTests := true, laidLooks := .later }
def EthernetAgainUptoCardSaid : Prop := Claim7.holds Tryd.pinned (.plain (OpenSpec.upto ethernetAgainSpec)) ethernetAgainUptoCard
end Rows
end Go.Proofs.YtellbiicmiljcaaDoor
